/- The walk of PathUnder: it says true for every two keys and every place. -/
import Derived.Test.YtehbahobkgoapaaPo
import Derived.Deep.Cut
import Derived.Deep.CutRange
namespace Go.Proofs.Ytehbahobkgoapaa
open Go Go.RowKit
set_option linter.unusedSimpArgs false
set_option linter.unusedVariables false

theorem underB_div {p q : List UInt8} (hp : p.length = 32) (hq : q.length = 32) (n : Nat) (hn : n ≤ 256) : underB p q n = decide (nOf p / 2 ^ (256 - n) = nOf q / 2 ^ (256 - n)) := by
  have h := comm_ge hp hq n hn
  unfold underB
  rw [decide_eq_decide, ← h]
  omega
theorem fillK_in (p : List UInt8) (n : Nat) (b : Bool) (hn : n ≤ 256) : fillK p n b = be 32 (fillN (nOf p) n b) := by
  unfold fillK; rw [if_pos (by omega), Int.toNat_natCast]
theorem fillE_in (n : Nat) (hn : n ≤ 256) : fillE n = 0 := by unfold fillE; rw [if_pos (by omega)]
theorem nOf_fillK (p : List UInt8) (hp : p.length = 32) (n : Nat) (b : Bool) (hn : n ≤ 256) : nOf (fillK p n b) = fillN (nOf p) n b := by
  rw [fillK_in p n b hn, nOf_key (fillN_lt _ _ _ (nOf_lt32 hp) hn)]
theorem under_fill (p : List UInt8) (hp : p.length = 32) (n : Nat) (b : Bool) (hn : n ≤ 256) : underB (fillK p n b) p n = true := by
  rw [underB_div (fillK_length _ _ _) hp n hn, nOf_fillK p hp n b hn, fillN_div]
  simp
theorem cmpZ_le (a b : Nat) : cmpZ a b ≤ 0 ↔ a ≤ b := by
  unfold cmpZ
  by_cases h : a < b
  · rw [if_pos h]; omega
  · rw [if_neg h]
    by_cases h2 : b < a
    · rw [if_pos h2]; omega
    · rw [if_neg h2]; omega
theorem cmpZ_lt (a b : Nat) : cmpZ a b < 0 ↔ a < b := by
  unfold cmpZ
  by_cases h : a < b
  · rw [if_pos h]; omega
  · rw [if_neg h]
    by_cases h2 : b < a
    · rw [if_pos h2]; omega
    · rw [if_neg h2]; omega
theorem cmpZ_gt (a b : Nat) : 0 < cmpZ a b ↔ b < a := by
  unfold cmpZ
  by_cases h : a < b
  · rw [if_pos h]; omega
  · rw [if_neg h]
    by_cases h2 : b < a
    · rw [if_pos h2]; omega
    · rw [if_neg h2]; omega
theorem within_fact (p t : List UInt8) (hp : p.length = 32) (ht : t.length = 32) (n : Nat) (hn : n ≤ 256) :
    underB p t n = (decide (cmpZ (nOf (fillK t n false)) (nOf p) ≤ 0) && decide (cmpZ (nOf p) (nOf (fillK t n true)) ≤ 0)) := by
  rw [underB_div hp ht n hn, nOf_fillK t ht n _ hn, nOf_fillK t ht n _ hn]
  have h0 : 0 < 2 ^ (256 - n) := Nat.pow_pos (by omega)
  have e1 : fillN (nOf t) n false = 2 ^ (256 - n) * (nOf t / 2 ^ (256 - n)) := by simp [fillN]
  have e2 : fillN (nOf t) n true = 2 ^ (256 - n) * (nOf t / 2 ^ (256 - n)) + (2 ^ (256 - n) - 1) := by simp [fillN]
  rw [Bool.eq_iff_iff]
  simp only [decide_eq_true_eq, Bool.and_eq_true, cmpZ_le, e1, e2]
  generalize 2 ^ (256 - n) = m at *
  generalize nOf t / m = k
  constructor
  · intro h
    have h1 := Nat.div_add_mod (nOf p) m
    have h2 := Nat.mod_lt (nOf p) h0
    rw [h] at h1
    omega
  · rintro ⟨h1, h2⟩
    apply Nat.div_eq_of_lt_le
    · rw [Nat.mul_comm]; exact h1
    · rw [Nat.add_mul, Nat.one_mul, Nat.mul_comm]; omega
theorem next_yes (p t : List UInt8) (hp : p.length = 32) (h : nextB p = true) : cmpZ (nOf p) (nOf (nextK p)) = -1 ∧ (cmpZ (nOf p) (nOf t) < 0 → ¬ 0 < cmpZ (nOf (nextK p)) (nOf t)) := by
  have h1 : nOf p + 1 < 2 ^ 256 := by simpa [nextB] using h
  have e : nOf (nextK p) = nOf p + 1 := by unfold nextK; rw [if_pos h1, nOf_key h1]
  rw [e, cmpZ_lt, cmpZ_gt]
  constructor
  · unfold cmpZ; rw [if_pos (by omega)]
  · omega
theorem next_no (p t : List UInt8) (hp : p.length = 32) (ht : t.length = 32) (h : nextB p = false) : ¬ cmpZ (nOf p) (nOf t) < 0 := by
  have h1 : ¬ nOf p + 1 < 2 ^ 256 := by simpa [nextB] using h
  have h2 := nOf_lt32 ht
  rw [cmpZ_lt]
  omega
theorem fill_whole (t : List UInt8) (ht : t.length = 32) (b : Bool) : fillK t 256 b = t := by
  have e : fillK t (256 : Nat) b = be 32 (fillN (nOf t) 256 b) := fillK_in t 256 b (by omega)
  have e2 : fillN (nOf t) 256 b = nOf t := by unfold fillN; cases b <;> simp
  rw [e2] at e
  have := be_nOf t
  rw [ht] at this
  rw [this] at e
  exact e
theorem flipK_in (p : List UInt8) (n : Nat) (hn : n < 256) : flipK p n = be 32 (flipN (nOf p) n) := by
  unfold flipK; rw [if_pos (by omega), Int.toNat_natCast]
theorem flipE_in (n : Nat) (hn : n < 256) : flipE n = 0 := by unfold flipE; rw [if_pos (by omega)]
theorem nOf_flipK (p : List UInt8) (hp : p.length = 32) (n : Nat) (hn : n < 256) : nOf (flipK p n) = flipN (nOf p) n := by
  rw [flipK_in p n hn, nOf_key (flipN_lt _ _ (nOf_lt32 hp) hn)]
theorem flip_back (p : List UInt8) (hp : p.length = 32) (n : Nat) (hn : n < 256) : flipK (flipK p n) n = p := by
  rw [flipK_in _ n hn, nOf_flipK p hp n hn]
  unfold flipN
  rw [Nat.xor_assoc, Nat.xor_self, Nat.xor_zero]
  have := be_nOf p
  rwa [hp] at this
theorem tb_flipK (p : List UInt8) (hp : p.length = 32) (n : Nat) (hn : n < 256) (e : Nat) (he : e < 256) : tb (flipK p n) e = if e = n then !tb p e else tb p e := by
  rw [tb_nOf _ (flipK_length _ _) e he, nOf_flipK p hp n hn, flipN_bit _ _ _ he hn, tb_nOf p hp e he]
theorem flip_comm (p : List UInt8) (hp : p.length = 32) (n : Nat) (hn : n < 256) : comm (flipK p n) p = n := by
  apply comm_of
  · omega
  · intro d hd
    rw [tb_flipK p hp n hn d (by omega), if_neg (by omega)]
  · intro _
    rw [tb_flipK p hp n hn n hn, if_pos rfl]
    simp
theorem flip_ne (p : List UInt8) (hp : p.length = 32) (n : Nat) (hn : n < 256) : (flipK p n == p) = false := by
  rw [beq_eq_false_iff_ne]
  intro h
  have h1 := flip_comm p hp n hn
  rw [h, comm_self] at h1
  omega

/-- A new variable is laid and filled. -/
theorem new_store {B : Nat} {u w w' : World} {o : Obj} (h : Below B u w) (hB : B ≤ w.heap.size) (hg : (w.alloc o).grownBy w' (some w.heap.size)) : Below B u w' ∧ Below w.heap.size w w' := by
  have h1 : Below w.heap.size w w' := ((Below.refl _ _).alloc (Nat.le_refl _) _).grown hg (by simp) (by intro k hk; cases hk; exact Nat.le_refl _)
  exact ⟨h.trans (h1.mono hB), h1⟩

/-- Variables that hold keys. -/
def Keys (W : World) (L : List (Nat × List UInt8)) : Prop := ∀ x ∈ L, Blk W x.1 23 (bvs x.2)
theorem Keys.below {W W' : World} {L : List (Nat × List UInt8)} (h : Keys W L) (hb : Below W.heap.size W W') : Keys W' L := fun x hx => (h x hx).below hb (h x hx).lt
theorem Keys.put {W W' : World} {L : List (Nat × List UInt8)} {o : Obj} {a : List UInt8} (h : Keys W L) (hg : (W.alloc o).grownBy W' (some W.heap.size)) (hb : Blk W' W.heap.size 23 (bvs a)) : Keys W' ((W.heap.size, a) :: L) := by
  intro x hx
  rcases List.mem_cons.1 hx with rfl | hx
  · exact hb
  · exact ((h x hx).alloc _).grown hg (fun e => by have := (h x hx).lt; have := Option.some.inj e; omega)
theorem Two.keys {w w0 : World} {p q : List UInt8} (h : Two w w0 23 p q) : Keys w0 [(w.heap.size, p), (w.heap.size + 1, q)] := by
  intro x hx
  simp only [List.mem_cons, List.not_mem_nil, or_false] at hx
  rcases hx with rfl | rfl
  · exact h.p
  · exact h.q

set_option maxRecDepth 100000 in
set_option maxHeartbeats 4000000 in
theorem path_under (p t : List UInt8) (d : Int) (w : World) (hp : p.length = 32) (ht : t.length = 32) (hd : -9223372036854775808 ≤ d ∧ d ≤ 9223372036854775807) :
    Calls Try.prog 9 #[arr8 p, arr8 t, .int .i64 d] w fun e w' => e = .returned (.bool true) ∧ Below w.heap.size w w' := by
  have hpk := pickOf_bd d 257 (by omega)
  have CP := Lib.hid (fun W => pick_any d 257 W (by omega) (by omega) hd)
  generalize hg : pickOf d 257 = g at *
  clear hg
  obtain ⟨n, rfl⟩ := Int.eq_ofNat_of_zero_le hpk.1
  have hn : n ≤ 256 := by omega
  have h2 := Two.mk' w 23 p t
  have CA := Lib.hid (fun W => first_any t n W ht (by omega))
  have CZ := Lib.hid (fun W => last_any t n W ht (by omega))
  have HW := Lib.hid (within_fact p t hp ht n hn)
  have HUA := Lib.hid (under_fill t ht n false hn)
  have HUZ := Lib.hid (under_fill t ht n true hn)
  have HFW := Lib.hid (fun h : n = 256 => And.intro (h ▸ fill_whole t ht false) (h ▸ fill_whole t ht true) : n = 256 → fillK t n false = t ∧ fillK t n true = t)
  have hla := fillK_length t n false
  have hlz := fillK_length t n true
  rw [fillE_in n hn] at CA CZ
  generalize fillK t n false = a at *
  generalize fillK t n true = z at *
  have HP := Lib.hid hp
  have HT := Lib.hid ht
  have HA := Lib.hid hla
  have HZ := Lib.hid hlz
  have K1 := Lib.hid (fun W => compare_any a p W hla hp)
  have K2 := Lib.hid (fun W => compare_any p z W hp hlz)
  have U0 := Lib.hid (fun W => under_any p t n W hp ht (by omega))
  have U1 := Lib.hid (fun W => under_any a t n W hla ht (by omega))
  have U2 := Lib.hid (fun W => under_any z t n W hlz ht (by omega))
  rw [HUA.out] at U1
  rw [HUZ.out] at U2
  have k1b := cmpZ_bd (nOf a) (nOf p)
  have k2b := cmpZ_bd (nOf p) (nOf z)
  generalize cmpZ (nOf a) (nOf p) = k1 at *
  generalize cmpZ (nOf p) (nOf z) = k2 at *
  generalize underB p t n = u at *
  clear hd HUA HUZ
  -- the next key
  have NY := Lib.hid (next_yes p t hp)
  have NN := Lib.hid (next_no p t hp ht)
  have CN := Lib.hid (fun W => next_any p W hp)
  have hly := nextK_length p
  have K3 := Lib.hid (fun W => compare_any p (nextK p) W hp hly)
  have K4 := Lib.hid (fun W => compare_any p t W hp ht)
  have K5 := Lib.hid (fun W => compare_any (nextK p) t W hly ht)
  have k3b := cmpZ_bd (nOf p) (nOf (nextK p))
  have k4b := cmpZ_bd (nOf p) (nOf t)
  have k5b := cmpZ_bd (nOf (nextK p)) (nOf t)
  generalize cmpZ (nOf p) (nOf (nextK p)) = k3 at *
  generalize cmpZ (nOf p) (nOf t) = k4 at *
  generalize cmpZ (nOf (nextK p)) (nOf t) = k5 at *
  generalize nextK p = y at *
  generalize nextB p = ok at *
  have HY := Lib.hid hly
  clear hly hla hlz hp ht
  unfold arr8 at *
  go_enter Try.func9, Try.ntmps9
  go_upto_region 2 with (go_at_call 64; with_reducible refine (CP.out _).mono ?_; rintro e w1 ⟨rfl, rfl⟩)
  have hk0 := h2.keys
  have hB0 := h2.b
  generalize hW0 : (w.alloc (.cells (bvs p).toArray 23)).alloc (.cells (bvs t).toArray 23) = w0 at *
  clear hW0 h2 CP
  go_upto_region 3 with (first
    | ((with_reducible refine at_dst 21 ?_); refine wpList_yield rfl _ (exec_load_agg at23' (.tmp 4) rfl _ 23 (bvs t) rfl (hk0 (w.heap.size + 1, t) (by simp)) (by rw [bvs_length]; exact HT.out)) ?_)
    | (go_at_call 65; with_reducible refine (CA.out _).mono ?_; rintro e w1 ⟨rfl, h_w1⟩)
    | ((with_reducible refine at_op (Op.store 23 (.tmp 7) (.tmp 24)) ?_)
       refine wpList_store_at at23'.i rfl (.tmp 7) (.tmp 24) rfl w1.heap.size 0 23 (bvs keyZ) (bvs a) rfl rfl (Blk.new w1 23 (bvs keyZ)) (by rw [bvs_length]; exact HA.out) (by rw [bvs_length]; simp [keyZ]) (bvs_one _) ?_
       intro w2 hb_w2 hg_w2 hs_w2; rw [splice_keyZ _ HA.out] at hb_w2))
  have hk2 := (hk0.below h_w1).put hg_w2 hb_w2
  obtain ⟨hB2, hS2⟩ := new_store (hB0.trans (h_w1.mono hB0.size)) (Nat.le_trans hB0.size h_w1.size) hg_w2
  clear hg_w2 hs_w2 hb_w2 hS2 h_w1 CA
  generalize w1.heap.size = ga at *
  go_upto_region 6 with (first
    | ((with_reducible refine at_dst 27 ?_); refine wpList_yield rfl _ (exec_load_agg at23' (.tmp 4) rfl _ 23 (bvs t) rfl (hk2 (w.heap.size + 1, t) (by simp)) (by rw [bvs_length]; exact HT.out)) ?_)
    | (go_at_call 66; with_reducible refine (CZ.out _).mono ?_; rintro e w3 ⟨rfl, h_w3⟩)
    | ((with_reducible refine at_op (Op.store 23 (.tmp 9) (.tmp 30)) ?_)
       refine wpList_store_at at23'.i rfl (.tmp 9) (.tmp 30) rfl w3.heap.size 0 23 (bvs keyZ) (bvs z) rfl rfl (Blk.new w3 23 (bvs keyZ)) (by rw [bvs_length]; exact HZ.out) (by rw [bvs_length]; simp [keyZ]) (bvs_one _) ?_
       intro w4 hb_w4 hg_w4 hs_w4; rw [splice_keyZ _ HZ.out] at hb_w4))
  have hk4 := (hk2.below h_w3).put hg_w4 hb_w4
  obtain ⟨hB4, hS4⟩ := new_store (hB2.trans (h_w3.mono hB2.size)) (Nat.le_trans hB2.size h_w3.size) hg_w4
  clear hg_w4 hs_w4 hb_w4 hS4 h_w3 CZ
  generalize w3.heap.size = gz at *
  go_cut [11] from 38 to 47 (fun x wx => x = .bool u ∧ Below w4.heap.size w4 wx)
  case first =>
    by_cases h1 : k1 ≤ 0
    · go_wp2_with (first
        | ((with_reducible refine at_dst 38 ?_); refine wpList_yield rfl _ (exec_load_agg at23' (.tmp 7) rfl _ 23 (bvs a) rfl (hk4 (ga, a) (by simp)) (by rw [bvs_length]; exact HA.out)) ?_)
        | ((with_reducible refine at_dst 39 ?_); refine wpList_yield rfl _ (exec_load_agg at23' (.tmp 3) rfl _ 23 (bvs p) rfl (hk4 (w.heap.size, p) (by simp)) (by rw [bvs_length]; exact HP.out)) ?_)
        | (go_at_call 56; with_reducible refine (K1.out _).mono ?_; rintro e w5 ⟨rfl, h_w5⟩)
        | ((with_reducible refine at_dst 43 ?_); refine wpList_yield_w (by simp [Region.wanted, yielded, Act.put]) _ (exec_load_agg at23' (.tmp 3) rfl _ 23 (bvs p) rfl ((hk4.below h_w5) (w.heap.size, p) (by simp)) (by rw [bvs_length]; exact HP.out)) ?_)
        | ((with_reducible refine at_dst 44 ?_); refine wpList_yield_w (by simp [Region.wanted, yielded, Act.put]) _ (exec_load_agg at23' (.tmp 9) rfl _ 23 (bvs z) rfl ((hk4.below h_w5) (gz, z) (by simp)) (by rw [bvs_length]; exact HZ.out)) ?_)
        | (go_at_call 56; with_reducible refine (K2.out _).mono ?_; rintro e w6 ⟨rfl, h_w6⟩))
      go_meet
      case rel => exact ⟨congrArg Value.bool (by rw [HW.out, decide_eq_true h1, Bool.true_and]), h_w5.trans (h_w6.mono h_w5.size)⟩
    · go_wp2_with (first
        | ((with_reducible refine at_dst 38 ?_); refine wpList_yield rfl _ (exec_load_agg at23' (.tmp 7) rfl _ 23 (bvs a) rfl (hk4 (ga, a) (by simp)) (by rw [bvs_length]; exact HA.out)) ?_)
        | ((with_reducible refine at_dst 39 ?_); refine wpList_yield rfl _ (exec_load_agg at23' (.tmp 3) rfl _ 23 (bvs p) rfl (hk4 (w.heap.size, p) (by simp)) (by rw [bvs_length]; exact HP.out)) ?_)
        | (go_at_call 56; with_reducible refine (K1.out _).mono ?_; rintro e w5 ⟨rfl, h_w5⟩))
      go_meet
      case rel => exact ⟨congrArg Value.bool (by rw [HW.out, decide_eq_false (by omega), Bool.false_and]), h_w5⟩
  case rest =>
    obtain ⟨rfl, h_wc⟩ := hcut
    have hk5 := hk4.below h_wc
    have hB5 := hB4.trans (h_wc.mono hB4.size)
    clear hk4 hB4 h_wc HW K1 K2
    obtain ⟨w5, rfl⟩ : ∃ W, W = wc := ⟨_, rfl⟩
    go_upto_region 9 with (first
      | ((with_reducible refine at_dst 48 ?_); refine wpList_yield rfl _ (exec_load_agg at23' (.tmp 3) rfl _ 23 (bvs p) rfl (hk5 (w.heap.size, p) (by simp)) (by rw [bvs_length]; exact HP.out)) ?_)
      | ((with_reducible refine at_dst 49 ?_); refine wpList_yield rfl _ (exec_load_agg at23' (.tmp 4) rfl _ 23 (bvs t) rfl (hk5 (w.heap.size + 1, t) (by simp)) (by rw [bvs_length]; exact HT.out)) ?_)
      | (go_at_call 67; with_reducible refine (U0.out _).mono ?_; rintro e w6 ⟨rfl, h_w6⟩)
      | ((with_reducible refine at_dst 55 ?_); refine wpList_yield_w (by simp [Region.wanted, yielded, Act.put]) _ (exec_load_agg at23' (.tmp 7) rfl _ 23 (bvs a) rfl ((hk5.below h_w6) (ga, a) (by simp)) (by rw [bvs_length]; exact HA.out)) ?_)
      | ((with_reducible refine at_dst 56 ?_); refine wpList_yield_w (by simp [Region.wanted, yielded, Act.put]) _ (exec_load_agg at23' (.tmp 4) rfl _ 23 (bvs t) rfl ((hk5.below h_w6) (w.heap.size + 1, t) (by simp)) (by rw [bvs_length]; exact HT.out)) ?_)
      | (go_at_call 67; with_reducible refine (U1.out _).mono ?_; rintro e w7 ⟨rfl, h_w7⟩)
      | ((with_reducible refine at_dst 62 ?_); refine wpList_yield_w (by simp [Region.wanted, yielded, Act.put]) _ (exec_load_agg at23' (.tmp 9) rfl _ 23 (bvs z) rfl (((hk5.below h_w6).below h_w7) (gz, z) (by simp)) (by rw [bvs_length]; exact HZ.out)) ?_)
      | ((with_reducible refine at_dst 63 ?_); refine wpList_yield_w (by simp [Region.wanted, yielded, Act.put]) _ (exec_load_agg at23' (.tmp 4) rfl _ 23 (bvs t) rfl (((hk5.below h_w6).below h_w7) (w.heap.size + 1, t) (by simp)) (by rw [bvs_length]; exact HT.out)) ?_)
      | (go_at_call 67; with_reducible refine (U2.out _).mono ?_; rintro e w8 ⟨rfl, h_w8⟩))
    have hk8 := ((hk5.below h_w6).below h_w7).below h_w8
    have hS8 : Below w5.heap.size w5 w8 := ((h_w6.trans (h_w7.mono h_w6.size)).trans (h_w8.mono (h_w6.trans (h_w7.mono h_w6.size)).size))
    have hB8 := hB5.trans (hS8.mono hB5.size)
    clear hk5 hB5 hS8 h_w6 h_w7 h_w8 U0 U1 U2
    go_upto_region 10 with (first
      | ((with_reducible refine at_dst 69 ?_); refine wpList_yield rfl _ (exec_load_agg at23' (.tmp 3) rfl _ 23 (bvs p) rfl (hk8 (w.heap.size, p) (by simp)) (by rw [bvs_length]; exact HP.out)) ?_)
      | (go_at_call 68; with_reducible refine (CN.out _).mono ?_; rintro e w9 ⟨rfl, h_w9⟩)
      | ((with_reducible refine at_op (Op.store 23 (.tmp 12) (.tmp 71)) ?_); refine wpList_store_at at23'.i rfl (.tmp 12) (.tmp 71) rfl w9.heap.size 0 23 (bvs keyZ) (bvs y) rfl rfl (Blk.new w9 23 (bvs keyZ)) (by rw [bvs_length]; exact HY.out) (by rw [bvs_length]; simp [keyZ]) (bvs_one _) ?_; intro w10 hb_w10 hg_w10 hs_w10; rw [splice_keyZ _ HY.out] at hb_w10))
    have hk10 := (hk8.below h_w9).put hg_w10 hb_w10
    obtain ⟨hB10, hS10⟩ := new_store (hB8.trans (h_w9.mono hB8.size)) (Nat.le_trans hB8.size h_w9.size) hg_w10
    clear hg_w10 hs_w10 hb_w10 hS10 h_w9 CN hk8 hB8
    generalize w9.heap.size = gy at *
    go_cut [101] from 73 to 101 (fun x wx => x = .bool false ∧ Below w10.heap.size w10 wx)
    case first =>
      cases ok with
      | true =>
        obtain ⟨hk3, hk5⟩ := NY.out rfl
        subst hk3
        by_cases h4 : k4 < 0
        · have h5 := hk5 h4
          go_wp2_with (first
            | ((with_reducible refine at_dst 75 ?_); refine wpList_yield_w (by simp [Region.wanted, yielded, Act.put]) _ (exec_load_agg at23' (.tmp 3) rfl _ 23 (bvs p) rfl (hk10 (w.heap.size, p) (by simp)) (by rw [bvs_length]; exact HP.out)) ?_)
            | ((with_reducible refine at_dst 76 ?_); refine wpList_yield_w (by simp [Region.wanted, yielded, Act.put]) _ (exec_load_agg at23' (.tmp 12) rfl _ 23 (bvs y) rfl (hk10 (gy, y) (by simp)) (by rw [bvs_length]; exact HY.out)) ?_)
            | (go_at_call 56; with_reducible refine (K3.out _).mono ?_; rintro e w11 ⟨rfl, h_w11⟩)
            | ((with_reducible refine at_dst 80 ?_); refine wpList_yield_w (by simp [Region.wanted, yielded, Act.put]) _ (exec_load_agg at23' (.tmp 3) rfl _ 23 (bvs p) rfl ((hk10.below h_w11) (w.heap.size, p) (by simp)) (by rw [bvs_length]; exact HP.out)) ?_)
            | ((with_reducible refine at_dst 81 ?_); refine wpList_yield_w (by simp [Region.wanted, yielded, Act.put]) _ (exec_load_agg at23' (.tmp 4) rfl _ 23 (bvs t) rfl ((hk10.below h_w11) (w.heap.size + 1, t) (by simp)) (by rw [bvs_length]; exact HT.out)) ?_)
            | (go_at_call 56; with_reducible refine (K4.out _).mono ?_; rintro e w12 ⟨rfl, h_w12⟩)
            | ((with_reducible refine at_dst 85 ?_); refine wpList_yield_w (by simp [Region.wanted, yielded, Act.put]) _ (exec_load_agg at23' (.tmp 12) rfl _ 23 (bvs y) rfl (((hk10.below h_w11).below h_w12) (gy, y) (by simp)) (by rw [bvs_length]; exact HY.out)) ?_)
            | ((with_reducible refine at_dst 86 ?_); refine wpList_yield_w (by simp [Region.wanted, yielded, Act.put]) _ (exec_load_agg at23' (.tmp 4) rfl _ 23 (bvs t) rfl (((hk10.below h_w11).below h_w12) (w.heap.size + 1, t) (by simp)) (by rw [bvs_length]; exact HT.out)) ?_)
            | (go_at_call 56; with_reducible refine (K5.out _).mono ?_; rintro e w13 ⟨rfl, h_w13⟩))
          go_meet
          case rel => exact ⟨congrArg Value.bool (by first | rfl | (simp; omega)), ((h_w11.trans (h_w12.mono h_w11.size)).trans (h_w13.mono (h_w11.trans (h_w12.mono h_w11.size)).size))⟩
        · go_wp2_with (first
            | ((with_reducible refine at_dst 75 ?_); refine wpList_yield_w (by simp [Region.wanted, yielded, Act.put]) _ (exec_load_agg at23' (.tmp 3) rfl _ 23 (bvs p) rfl (hk10 (w.heap.size, p) (by simp)) (by rw [bvs_length]; exact HP.out)) ?_)
            | ((with_reducible refine at_dst 76 ?_); refine wpList_yield_w (by simp [Region.wanted, yielded, Act.put]) _ (exec_load_agg at23' (.tmp 12) rfl _ 23 (bvs y) rfl (hk10 (gy, y) (by simp)) (by rw [bvs_length]; exact HY.out)) ?_)
            | (go_at_call 56; with_reducible refine (K3.out _).mono ?_; rintro e w11 ⟨rfl, h_w11⟩)
            | ((with_reducible refine at_dst 80 ?_); refine wpList_yield_w (by simp [Region.wanted, yielded, Act.put]) _ (exec_load_agg at23' (.tmp 3) rfl _ 23 (bvs p) rfl ((hk10.below h_w11) (w.heap.size, p) (by simp)) (by rw [bvs_length]; exact HP.out)) ?_)
            | ((with_reducible refine at_dst 81 ?_); refine wpList_yield_w (by simp [Region.wanted, yielded, Act.put]) _ (exec_load_agg at23' (.tmp 4) rfl _ 23 (bvs t) rfl ((hk10.below h_w11) (w.heap.size + 1, t) (by simp)) (by rw [bvs_length]; exact HT.out)) ?_)
            | (go_at_call 56; with_reducible refine (K4.out _).mono ?_; rintro e w12 ⟨rfl, h_w12⟩))
          go_meet
          case rel => exact ⟨congrArg Value.bool (by first | rfl | (simp; omega)), (h_w11.trans (h_w12.mono h_w11.size))⟩
      | false =>
        have h4 := NN.out rfl
        go_wp2_with (first
          | ((with_reducible refine at_dst 96 ?_); refine wpList_yield_w (by simp [Region.wanted, yielded, Act.put]) _ (exec_load_agg at23' (.tmp 3) rfl _ 23 (bvs p) rfl (hk10 (w.heap.size, p) (by simp)) (by rw [bvs_length]; exact HP.out)) ?_)
          | ((with_reducible refine at_dst 97 ?_); refine wpList_yield_w (by simp [Region.wanted, yielded, Act.put]) _ (exec_load_agg at23' (.tmp 4) rfl _ 23 (bvs t) rfl (hk10 (w.heap.size + 1, t) (by simp)) (by rw [bvs_length]; exact HT.out)) ?_)
          | (go_at_call 56; with_reducible refine (K4.out _).mono ?_; rintro e w11 ⟨rfl, h_w11⟩))
        go_meet
        case rel => exact ⟨congrArg Value.bool (by first | rfl | (simp; omega)), h_w11⟩
    case rest =>
      obtain ⟨rfl, h_wc⟩ := hcut
      have hk11 := hk10.below h_wc
      have hB11 := hB10.trans (h_wc.mono hB10.size)
      clear hk10 hB10 h_wc NY NN K3 K4 K5
      obtain ⟨w11, rfl⟩ : ∃ W, W = wc := ⟨_, rfl⟩
      by_cases h256 : n = 256
      · obtain ⟨ha, hz⟩ := HFW.out h256
        have HEA := Lib.hid ha
        have HEZ := Lib.hid hz
        subst h256
        clear HFW ha hz
        go_wp2_with (first
          | ((with_reducible refine at_dst 104 ?_); refine wpList_yield rfl _ (exec_load_agg at23' (.tmp 7) rfl _ 23 (bvs a) rfl (hk11 (ga, a) (by simp)) (by rw [bvs_length]; exact HA.out)) ?_)
          | ((with_reducible refine at_dst 105 ?_); refine wpList_yield rfl _ (exec_load_agg at23' (.tmp 4) rfl _ 23 (bvs t) rfl (hk11 (w.heap.size + 1, t) (by simp)) (by rw [bvs_length]; exact HT.out)) ?_)
          | ((with_reducible refine at_dst 106 ?_); refine wpList_yield rfl _ (exec_eql_is (b := true) ab23 (.tmp 104) (.tmp 105) rfl a t rfl rfl HA.out HT.out (by rw [HEA.out]; simp)) ?_)
          | ((with_reducible refine at_dst 108 ?_); refine wpList_yield_w (by simp [Region.wanted, yielded, Act.put]) _ (exec_load_agg at23' (.tmp 9) rfl _ 23 (bvs z) rfl (hk11 (gz, z) (by simp)) (by rw [bvs_length]; exact HZ.out)) ?_)
          | ((with_reducible refine at_dst 109 ?_); refine wpList_yield_w (by simp [Region.wanted, yielded, Act.put]) _ (exec_load_agg at23' (.tmp 4) rfl _ 23 (bvs t) rfl (hk11 (w.heap.size + 1, t) (by simp)) (by rw [bvs_length]; exact HT.out)) ?_)
          | ((with_reducible refine at_dst 110 ?_); refine wpList_yield_w (by simp [Region.wanted, yielded, Act.put]) _ (exec_eql_is (b := true) ab23 (.tmp 108) (.tmp 109) rfl z t rfl rfl HZ.out HT.out (by rw [HEZ.out]; simp)) ?_))
        go_ret
        exact ⟨rfl, hB11⟩
      · have hn6 : n < 256 := by omega
        have F1 := Lib.hid (fun W => flip_any p n W HP.out (by omega))
        have hlx := flipK_length p n
        have F2 := Lib.hid (fun W => flip_any (flipK p n) n W hlx (by omega))
        have C1 := Lib.hid (fun W => common_any (flipK p n) p W hlx HP.out)
        have HNE := Lib.hid (flip_ne p HP.out n hn6)
        rw [flipE_in n hn6] at F1 F2
        rw [flip_back p HP.out n hn6] at F2
        rw [flip_comm p HP.out n hn6] at C1
        generalize flipK p n = x at *
        have HX := Lib.hid hlx
        clear hlx HFW
        unfold arr8 at *
        have hn256 : (( n : Int) == 256) = false := by simp; omega
        go_upto_region 15 with (first
          | ((with_reducible refine at_dst 113 ?_); refine wpList_yield rfl _ (exec_load_agg at23' (.tmp 3) rfl _ 23 (bvs p) rfl (hk11 (w.heap.size, p) (by simp)) (by rw [bvs_length]; exact HP.out)) ?_)
          | (go_at_call 69; with_reducible refine (F1.out _).mono ?_; rintro e w12 ⟨rfl, h_w12⟩)
          | ((with_reducible refine at_op (Op.store 23 (.tmp 14) (.tmp 116)) ?_); refine wpList_store_at at23'.i rfl (.tmp 14) (.tmp 116) rfl w12.heap.size 0 23 (bvs keyZ) (bvs x) rfl rfl (Blk.new w12 23 (bvs keyZ)) (by rw [bvs_length]; exact HX.out) (by rw [bvs_length]; simp [keyZ]) (bvs_one _) ?_; intro w13 hb_w13 hg_w13 hs_w13; rw [splice_keyZ _ HX.out] at hb_w13))
        have hk13 := (hk11.below h_w12).put hg_w13 hb_w13
        obtain ⟨hB13, hS13⟩ := new_store (hB11.trans (h_w12.mono hB11.size)) (Nat.le_trans hB11.size h_w12.size) hg_w13
        clear hg_w13 hs_w13 hb_w13 hS13 h_w12 F1 hk11 hB11
        generalize w12.heap.size = gx at *
        go_upto_region 16 with (first
          | ((with_reducible refine at_dst 119 ?_); refine wpList_yield rfl _ (exec_load_agg at23' (.tmp 14) rfl _ 23 (bvs x) rfl (hk13 (gx, x) (by simp)) (by rw [bvs_length]; exact HX.out)) ?_)
          | (go_at_call 69; with_reducible refine (F2.out _).mono ?_; rintro e w14 ⟨rfl, h_w14⟩)
          | ((with_reducible refine at_op (Op.store 23 (.tmp 16) (.tmp 122)) ?_); refine wpList_store_at at23'.i rfl (.tmp 16) (.tmp 122) rfl w14.heap.size 0 23 (bvs keyZ) (bvs p) rfl rfl (Blk.new w14 23 (bvs keyZ)) (by rw [bvs_length]; exact HP.out) (by rw [bvs_length]; simp [keyZ]) (bvs_one _) ?_; intro w15 hb_w15 hg_w15 hs_w15; rw [splice_keyZ _ HP.out] at hb_w15))
        have hk15 := (hk13.below h_w14).put hg_w15 hb_w15
        obtain ⟨hB15, hS15⟩ := new_store (hB13.trans (h_w14.mono hB13.size)) (Nat.le_trans hB13.size h_w14.size) hg_w15
        clear hg_w15 hs_w15 hb_w15 hS15 h_w14 F2 hk13 hB13
        generalize w14.heap.size = gq at *
        go_wp2_with (first
          | ((with_reducible refine at_dst 131 ?_); refine wpList_yield_w (by simp [Region.wanted, yielded, Act.put]) _ (exec_load_agg at23' (.tmp 14) rfl _ 23 (bvs x) rfl (hk15 (gx, x) (by simp)) (by rw [bvs_length]; exact HX.out)) ?_)
          | ((with_reducible refine at_dst 132 ?_); refine wpList_yield_w (by simp [Region.wanted, yielded, Act.put]) _ (exec_load_agg at23' (.tmp 3) rfl _ 23 (bvs p) rfl (hk15 (w.heap.size, p) (by simp)) (by rw [bvs_length]; exact HP.out)) ?_)
          | ((with_reducible refine at_dst 133 ?_); refine wpList_yield_w (by simp [Region.wanted, yielded, Act.put]) _ (exec_neq_is (b := true) ab23 (.tmp 131) (.tmp 132) rfl x p rfl rfl HX.out HP.out (by exact HNE.out)) ?_)
          | ((with_reducible refine at_dst 136 ?_); refine wpList_yield_w (by simp [Region.wanted, yielded, Act.put]) _ (exec_load_agg at23' (.tmp 16) rfl _ 23 (bvs p) rfl (hk15 (gq, p) (by simp)) (by rw [bvs_length]; exact HP.out)) ?_)
          | ((with_reducible refine at_dst 137 ?_); refine wpList_yield_w (by simp [Region.wanted, yielded, Act.put]) _ (exec_load_agg at23' (.tmp 3) rfl _ 23 (bvs p) rfl (hk15 (w.heap.size, p) (by simp)) (by rw [bvs_length]; exact HP.out)) ?_)
          | ((with_reducible refine at_dst 138 ?_); refine wpList_yield_w (by simp [Region.wanted, yielded, Act.put]) _ (exec_eql_is (b := true) ab23 (.tmp 136) (.tmp 137) rfl p p rfl rfl HP.out HP.out (by simp)) ?_)
          | ((with_reducible refine at_dst 141 ?_); refine wpList_yield_w (by simp [Region.wanted, yielded, Act.put]) _ (exec_load_agg at23' (.tmp 14) rfl _ 23 (bvs x) rfl (hk15 (gx, x) (by simp)) (by rw [bvs_length]; exact HX.out)) ?_)
          | ((with_reducible refine at_dst 142 ?_); refine wpList_yield_w (by simp [Region.wanted, yielded, Act.put]) _ (exec_load_agg at23' (.tmp 3) rfl _ 23 (bvs p) rfl (hk15 (w.heap.size, p) (by simp)) (by rw [bvs_length]; exact HP.out)) ?_)
          | (go_at_call 53; with_reducible refine (C1.out _).mono ?_; rintro e w16 ⟨rfl, h_w16⟩))
        go_ret
        exact ⟨rfl, hB15.trans (h_w16.mono hB15.size)⟩
end Go.Proofs.Ytehbahobkgoapaa
