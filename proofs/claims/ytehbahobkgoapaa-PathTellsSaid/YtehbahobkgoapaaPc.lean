/- Contracts of path's functions, part three: filled, First, Last, Flip, Next. -/
import Derived.Test.YtehbahobkgoapaaPb
namespace Go.Proofs.Ytehbahobkgoapaa
open Go Go.RowKit
set_option linter.unusedSimpArgs false
set_option linter.unusedVariables false

/-- A byte whose first k bits stay (all where k is 8 or more), all others as said. -/
def fbN (x : Nat) (k : Int) (b : Bool) : Nat :=
  if k ≤ 0 then (if b then 255 else 0) else if k < 8 then (x &&& (255 - 255 / 2 ^ k.toNat)) ||| ((if b then 255 else 0) &&& (255 / 2 ^ k.toNat)) else x
theorem fb_mid : ∀ x, x < 256 → ∀ k, k < 8 → ∀ b : Bool, ((x &&& (255 - 255 / 2 ^ k)) ||| ((if b then 255 else 0) &&& (255 / 2 ^ k)) < 256 ∧
    ∀ e, e < 8 → ((x &&& (255 - 255 / 2 ^ k)) ||| ((if b then 255 else 0) &&& (255 / 2 ^ k))).testBit (7 - e) = if e < k then x.testBit (7 - e) else b) := by decide +kernel
theorem fb_all : ∀ b : Bool, ∀ e, e < 8 → (if b then 255 else 0 : Nat).testBit (7 - e) = b := by decide +kernel
theorem fbN_lt (x : Nat) (hx : x < 256) (k : Int) (b : Bool) : fbN x k b < 256 := by
  unfold fbN
  split
  · split <;> omega
  · split
    · exact (fb_mid x hx k.toNat (by omega) b).1
    · exact hx
theorem fbN_bit (x : Nat) (hx : x < 256) (k : Int) (b : Bool) (e : Nat) (he : e < 8) : (fbN x k b).testBit (7 - e) = if (e : Int) < k then x.testBit (7 - e) else b := by
  unfold fbN
  split
  · rw [fb_all b e he, if_neg (by omega)]
  · split
    · rw [(fb_mid x hx k.toNat (by omega) b).2 e he]
      by_cases h : (e : Int) < k
      · rw [if_pos h, if_pos (by omega)]
      · rw [if_neg h, if_neg (by omega)]
    · rw [if_pos (by omega)]
def fillTo (p : List UInt8) (d : Nat) (b : Bool) (k : Nat) : List UInt8 := (List.range 32).map fun i => if i < k then UInt8.ofNat (fbN (p.getD i 0).toNat ((d : Int) - 8 * (i : Int)) b) else p.getD i 0
theorem fillTo_length (p : List UInt8) (d : Nat) (b : Bool) (k : Nat) : (fillTo p d b k).length = 32 := by simp [fillTo]
theorem fillTo_get (p : List UInt8) (d : Nat) (b : Bool) (k i : Nat) (hi : i < 32) : (fillTo p d b k).getD i 0 = if i < k then UInt8.ofNat (fbN (p.getD i 0).toNat ((d : Int) - 8 * (i : Int)) b) else p.getD i 0 := by
  unfold fillTo
  rw [List.getD_eq_getElem?_getD, List.getElem?_map, List.getElem?_range hi]
  rfl
theorem getD_ext {l m : List UInt8} (hl : l.length = 32) (hm : m.length = 32) (h : ∀ i, i < 32 → l.getD i 0 = m.getD i 0) : l = m := by
  apply List.ext_getElem?
  intro i
  by_cases hi : i < 32
  · have := h i hi
    rw [List.getD_eq_getElem?_getD, List.getD_eq_getElem?_getD, List.getElem?_eq_getElem (by omega), List.getElem?_eq_getElem (by omega)] at this
    rw [List.getElem?_eq_getElem (by omega), List.getElem?_eq_getElem (by omega)]
    simpa using this
  · rw [List.getElem?_eq_none (by omega), List.getElem?_eq_none (by omega)]
theorem fillTo_zero (p : List UInt8) (d : Nat) (b : Bool) (hp : p.length = 32) : fillTo p d b 0 = p :=
  getD_ext (fillTo_length _ _ _ _) hp fun i hi => by rw [fillTo_get _ _ _ _ _ hi, if_neg (by omega)]
theorem set_getD (l : List UInt8) (k i : Nat) (x : UInt8) (hk : k < l.length) : (l.set k x).getD i 0 = if i = k then x else l.getD i 0 := by
  rw [List.getD_eq_getElem?_getD, List.getElem?_set]
  by_cases h : k = i
  · subst h; rw [if_pos rfl, if_pos hk, if_pos rfl]; rfl
  · rw [if_neg h, if_neg (fun e => h e.symm), List.getD_eq_getElem?_getD]
theorem fillTo_succ (p : List UInt8) (d : Nat) (b : Bool) (k : Nat) (hk : k < 32) : (fillTo p d b k).set k (UInt8.ofNat (fbN (p.getD k 0).toNat ((d : Int) - 8 * (k : Int)) b)) = fillTo p d b (k + 1) :=
  getD_ext (by simp [fillTo_length]) (fillTo_length _ _ _ _) fun i hi => by
    rw [set_getD _ _ _ _ (by rw [fillTo_length]; exact hk), fillTo_get _ _ _ _ _ hi, fillTo_get _ _ _ _ _ hi]
    by_cases h : i = k
    · subst h; rw [if_pos rfl, if_pos (by omega)]
    · rw [if_neg h]
      by_cases h2 : i < k
      · rw [if_pos h2, if_pos (by omega)]
      · rw [if_neg h2, if_neg (by omega)]
theorem fillTo_same (p : List UInt8) (d : Nat) (b : Bool) (k : Nat) (hk : k < 32) (h8 : 8 ≤ (d : Int) - 8 * (k : Int)) : fillTo p d b k = fillTo p d b (k + 1) :=
  getD_ext (fillTo_length _ _ _ _) (fillTo_length _ _ _ _) fun i hi => by
    rw [fillTo_get _ _ _ _ _ hi, fillTo_get _ _ _ _ _ hi]
    by_cases h : i = k
    · subst h; rw [if_neg (by omega), if_pos (by omega)]
      unfold fbN
      rw [if_neg (by omega), if_neg (by omega), UInt8.ofNat_toNat]
    · by_cases h2 : i < k
      · rw [if_pos h2, if_pos (by omega)]
      · rw [if_neg h2, if_neg (by omega)]
theorem fillTo_all (p : List UInt8) (d : Nat) (b : Bool) (hp : p.length = 32) (hd : d ≤ 256) : fillTo p d b 32 = be 32 (fillN (nOf p) d b) := by
  apply key_of (fillTo_length _ _ _ _) (fillN_lt _ _ _ (nOf_lt32 hp) hd)
  intro e he
  rw [fillN_bit _ _ _ _ he hd]
  unfold tb
  rw [fillTo_get _ _ _ _ _ (by omega), if_pos (by omega), UInt8.toNat_ofNat_of_lt' (fbN_lt _ (UInt8.toNat_lt _) _ _), fbN_bit _ (UInt8.toNat_lt _) _ _ _ (by omega)]
  have e1 := tb_nOf p hp e he
  unfold tb at e1
  by_cases h : e < d
  · rw [if_pos h, if_pos (by omega), e1]
  · rw [if_neg h, if_neg (by omega)]

/-- The walk's words for a byte mixed. -/
theorem mix_word (x z m : Nat) (hx : x < 256) (hz : z < 256) (hm : m < 8) :
    Value.int .u8 (bits .or .u8 (bits .andNot .u8 (x : Int) (255 / 2 ^ m)) (bits .and .u8 (z : Int) (255 / 2 ^ m))) = .int .u8 (((x &&& (255 - 255 / 2 ^ m)) ||| (z &&& (255 / 2 ^ m)) : Nat) : Int) := by
  have e2 : (255 : Int) / 2 ^ m = ((255 / 2 ^ m : Nat) : Int) := by simp
  have e3 : 255 / 2 ^ m < 256 := Nat.lt_of_le_of_lt (Nat.div_le_self _ _) (by omega)
  rw [e2, u8_andNot_nat _ _ hx e3, u8_and_nat _ _ hz e3, u8_or_nat _ _ (Nat.lt_of_le_of_lt Nat.and_le_left hx) (Nat.lt_of_le_of_lt Nat.and_le_left hz)]

theorem splice_whole {α : Type} (L vs : List α) (h : vs.length = L.length) : splice L 0 vs = vs := by
  unfold splice
  rw [List.drop_eq_nil_of_le (by omega)]
  simp
theorem splice_keyZ (q : List UInt8) (hq : q.length = 32) : splice (bvs keyZ) 0 (bvs q) = bvs q := splice_whole _ _ (by rw [bvs_length, bvs_length, keyZ_length, hq])
theorem bv_nat (n : Nat) (h : n < 256) : bv (UInt8.ofNat n) = .int .u8 (n : Int) := by
  unfold bv
  rw [UInt8.toNat_ofNat_of_lt' h]
def keyE (b : Bool) : Nat := if b then 255 else 0
def fillK (p : List UInt8) (d : Int) (b : Bool) : List UInt8 := if 0 ≤ d ∧ d ≤ 256 then be 32 (fillN (nOf p) d.toNat b) else keyZ
def fillE (d : Int) : Int := if 0 ≤ d ∧ d ≤ 256 then 0 else 2
theorem fillK_length (p : List UInt8) (d : Int) (b : Bool) : (fillK p d b).length = 32 := by unfold fillK; split; exact be_length _ _; exact keyZ_length
set_option maxRecDepth 100000 in
set_option maxHeartbeats 1000000 in
theorem filled_any (p : List UInt8) (d : Int) (b : Bool) (w : World) (hp : p.length = 32) (hd : -9223372036854775808 ≤ d ∧ d ≤ 9223372036854775807) :
    Calls Try.prog 133 #[arr8 p, .int .i64 d, .int .u8 (keyE b : Nat)] w fun e w' =>
      e = .returned (.tuple #[arr8 (fillK p d b), .int .i64 (fillE d)]) ∧ Below w.heap.size w w' := by
  have HP := Lib.hid hp
  have h2 := Two.mk' w 23 p keyZ
  have hz8 : keyE b < 256 := by unfold keyE; split <;> omega
  unfold fillK fillE
  by_cases hr : 0 ≤ d ∧ d ≤ 256
  · rw [if_pos hr, if_pos hr]
    obtain ⟨n, rfl⟩ := Int.eq_ofNat_of_zero_le hr.1
    have hn : n ≤ 256 := by omega
    rw [Int.toNat_natCast, ← fillTo_all p n b hp hn]
    clear hr hd hp
    have HF : Hid (keyE b = if b then 255 else 0) := rfl
    generalize keyE b = z at *
    unfold arr8
    go_enter Try.func133, Try.ntmps133
    go_wp2_with fail
    go_loopw [18] (fun i wr => ∃ k : Nat, k ≤ 32 ∧ i = .int .i64 (k : Int) ∧ Blk wr w.heap.size 23 (bvs (fillTo p n b k)) ∧ Blk wr (w.heap.size + 1) 23 (bvs keyZ) ∧ Below w.heap.size w wr) (fun i _ => 32 - (intOf i).toNat)
    case atStart => exact ⟨0, by omega, by go_num, by rw [fillTo_zero p n b HP.out]; exact h2.p, h2.q, h2.b⟩
    case round =>
      obtain ⟨k, hk, rfl, hb, hq, hw⟩ := hrel
      by_cases hlt : k < 32
      · have hc : wr.cell? ⟨w.heap.size, k, none⟩ = some (.int .u8 ((p.getD k 0).toNat : Int)) := by
          rw [key_cell hb (fillTo_length _ _ _ _) k hlt, fillTo_get _ _ _ _ _ hlt, if_neg (by omega)]
        have hf := hb.free k
        have hx8 : (p.getD k 0).toNat < 256 := UInt8.toNat_lt _
        have hsucc := Lib.hid (fillTo_succ p n b k hlt)
        have hsame := Lib.hid (fillTo_same p n b k hlt)
        obtain ⟨x, hx⟩ : ∃ x, x = (p.getD k 0).toNat := ⟨_, rfl⟩
        rw [← hx] at hc hx8
        have HX := Lib.hid hx; clear hx
        by_cases hk0 : (n : Int) - 8 * (k : Int) ≤ 0
        · go_wp2_with fail
          go_roundw
          case rel =>
            have h1 := hb.set_ k (bv (UInt8.ofNat (fbN (p.getD k 0).toNat ((n : Int) - 8 * (k : Int)) b)))
            rw [set_bvs, hsucc.out, bv_nat _ (fbN_lt _ (UInt8.toNat_lt _) _ _)] at h1
            have e1 : fbN (p.getD k 0).toNat ((n : Int) - 8 * (k : Int)) b = z := by unfold fbN; rw [if_pos hk0]; exact HF.out.symm
            rw [e1] at h1
            exact ⟨k + 1, by omega, by go_num, h1, hq.far (by simp) _, hw.setCell (Nat.le_refl _) _⟩
          case measure => simp only [intOf]; omega
        · obtain ⟨m, hm⟩ := Int.eq_ofNat_of_zero_le (show 0 ≤ (n : Int) - 8 * (k : Int) by omega)
          by_cases hk8 : m < 8
          · have hmix := mix_word x z m hx8 hz8 hk8
            rw [hm] at hsucc hk0
            go_wp2_with fail
            go_roundw
            case rel =>
              have h1 := hb.set_ k (bv (UInt8.ofNat (fbN (p.getD k 0).toNat (m : Int) b)))
              rw [set_bvs, hsucc.out, bv_nat _ (fbN_lt _ (UInt8.toNat_lt _) _ _)] at h1
              have e1 : fbN (p.getD k 0).toNat (m : Int) b = (x &&& (255 - 255 / 2 ^ m)) ||| (z &&& (255 / 2 ^ m)) := by
                unfold fbN; rw [if_neg hk0, if_pos (by omega), Int.toNat_natCast, ← HX.out, HF.out]
              rw [e1] at h1
              exact ⟨k + 1, by omega, by go_num, h1, hq.far (by simp) _, hw.setCell (Nat.le_refl _) _⟩
            case measure => simp only [intOf]; omega
          · have e8 := hsame.out (by omega)
            have E8 := Lib.hid e8; clear e8
            go_wp2_with fail
            go_roundw
            case rel => exact ⟨k + 1, by omega, by go_num, by rw [← E8.out]; exact hb, hq, hw⟩
            case measure => simp only [intOf]; omega
      · obtain rfl : k = 32 := by omega
        go_wp2_with (first
          | ((with_reducible refine at_dst 48 ?_); refine wpList_yield rfl _ (exec_load_agg at23' (.tmp 3) rfl _ 23 (bvs (fillTo p n b 32)) rfl hb (by rw [bvs_length]; exact fillTo_length _ _ _ _)) ?_)
          | ((with_reducible refine at_op (Op.store 23 (.tmp 6) (.tmp 48)) ?_)
             refine wpList_store_at at23'.i rfl (.tmp 6) (.tmp 48) rfl (w.heap.size + 1) 0 23 (bvs keyZ) (bvs (fillTo p n b 32)) rfl rfl hq (by rw [bvs_length]; exact fillTo_length _ _ _ _) (by rw [bvs_length]; simp [keyZ]) (bvs_one _) ?_
             intro w1 hb1 hg1 hs1))
        (try simp only [Exit.inBlock, Exit.then])
        rw [splice_keyZ _ (fillTo_length _ _ _ _)] at hb1
        refine bodyPost_ret (ret_cell_tmp rfl at23' _ _ (w.heap.size + 1) 23 (bvs (fillTo p n b 32)) rfl hb1 (by rw [bvs_length]; exact fillTo_length _ _ _ _)) rfl ?_
        exact ⟨rfl, hw.grown hg1 hw.size (by intro k hk; cases hk; omega)⟩
  · rw [if_neg hr, if_neg hr]
    clear hp
    unfold arr8
    by_cases h0 : d < 0
    · go_enter Try.func133, Try.ntmps133
      go_wp2_with (
         (with_reducible refine at_op (Op.store 23 (.tmp 6) (.tmp 17)) ?_)
         refine wpList_store_at at23'.i rfl (.tmp 6) (.tmp 17) rfl (w.heap.size + 1) 0 23 (bvs keyZ) (bvs keyZ) rfl rfl h2.q (by rw [bvs_length]; exact keyZ_length) (by rw [bvs_length]; simp [keyZ]) (bvs_one _) ?_
         intro w1 hb1 hg1 hs1)
      (try simp only [Exit.inBlock, Exit.then])
      rw [splice_keyZ _ keyZ_length] at hb1
      refine bodyPost_ret (ret_cell_tmp rfl at23' _ _ (w.heap.size + 1) 23 (bvs keyZ) rfl hb1 (by rw [bvs_length]; exact keyZ_length)) rfl ?_
      exact ⟨rfl, h2.b.grown hg1 h2.b.size (by intro k hk; cases hk; omega)⟩
    · have h1 : 256 < d := by omega
      go_enter Try.func133, Try.ntmps133
      go_wp2_with (
         (with_reducible refine at_op (Op.store 23 (.tmp 6) (.tmp 17)) ?_)
         refine wpList_store_at at23'.i rfl (.tmp 6) (.tmp 17) rfl (w.heap.size + 1) 0 23 (bvs keyZ) (bvs keyZ) rfl rfl h2.q (by rw [bvs_length]; exact keyZ_length) (by rw [bvs_length]; simp [keyZ]) (bvs_one _) ?_
         intro w1 hb1 hg1 hs1)
      (try simp only [Exit.inBlock, Exit.then])
      rw [splice_keyZ _ keyZ_length] at hb1
      refine bodyPost_ret (ret_cell_tmp rfl at23' _ _ (w.heap.size + 1) 23 (bvs keyZ) rfl hb1 (by rw [bvs_length]; exact keyZ_length)) rfl ?_
      exact ⟨rfl, h2.b.grown hg1 h2.b.size (by intro k hk; cases hk; omega)⟩

set_option maxRecDepth 100000 in
theorem first_any (p : List UInt8) (d : Int) (w : World) (hp : p.length = 32) (hd : -9223372036854775808 ≤ d ∧ d ≤ 9223372036854775807) :
    Calls Try.prog 65 #[arr8 p, .int .i64 d] w fun e w' => e = .returned (.tuple #[arr8 (fillK p d false), .int .i64 (fillE d)]) ∧ Below w.heap.size w w' := by
  have HP := Lib.hid hp
  have h2 := Two.mk' w 23 p keyZ
  have hx0 := fillK_length p d false
  have hcall := fun W => filled_any p d false W hp hd
  generalize fillK p d false = x at *
  have hx := Lib.hid hx0
  have HC := Lib.hid hcall
  clear hx0 hcall hp
  unfold arr8
  go_enter Try.func65, Try.ntmps65
  go_wp2_with (first
    | ((with_reducible refine at_dst 6 ?_); refine wpList_yield rfl _ (exec_load_agg at23' (.tmp 2) rfl _ 23 (bvs p) rfl h2.p (by rw [bvs_length]; exact HP.out)) ?_)
    | (go_at_call 133; refine (HC.out _).mono ?_; rintro e w1 ⟨rfl, hw1⟩)
    | ((with_reducible refine at_op (Op.store 23 (.tmp 4) (.tmp 9)) ?_)
       refine wpList_store_at at23'.i rfl (.tmp 4) (.tmp 9) rfl (w.heap.size + 1) 0 23 (bvs keyZ) (bvs x) rfl rfl (h2.q.below hw1 h2.q.lt) (by rw [bvs_length]; exact hx.out) (by rw [bvs_length]; simp [keyZ]) (bvs_one _) ?_
       intro w2 hb1 hg1 hs1))
  (try simp only [Exit.inBlock, Exit.then])
  rw [splice_keyZ _ hx.out] at hb1
  refine bodyPost_ret (ret_cell_tmp rfl at23' _ _ (w.heap.size + 1) 23 (bvs x) rfl hb1 (by rw [bvs_length]; exact hx.out)) rfl ?_
  exact ⟨rfl, (h2.b.trans (hw1.mono h2.b.size)).grown hg1 (Nat.le_trans h2.b.size hw1.size) (by intro k hk; cases hk; omega)⟩
set_option maxRecDepth 100000 in
theorem last_any (p : List UInt8) (d : Int) (w : World) (hp : p.length = 32) (hd : -9223372036854775808 ≤ d ∧ d ≤ 9223372036854775807) :
    Calls Try.prog 66 #[arr8 p, .int .i64 d] w fun e w' => e = .returned (.tuple #[arr8 (fillK p d true), .int .i64 (fillE d)]) ∧ Below w.heap.size w w' := by
  have HP := Lib.hid hp
  have h2 := Two.mk' w 23 p keyZ
  have hx0 := fillK_length p d true
  have hcall := fun W => filled_any p d true W hp hd
  generalize fillK p d true = x at *
  have hx := Lib.hid hx0
  have HC := Lib.hid hcall
  clear hx0 hcall hp
  unfold arr8
  go_enter Try.func66, Try.ntmps66
  go_wp2_with (first
    | ((with_reducible refine at_dst 6 ?_); refine wpList_yield rfl _ (exec_load_agg at23' (.tmp 2) rfl _ 23 (bvs p) rfl h2.p (by rw [bvs_length]; exact HP.out)) ?_)
    | (go_at_call 133; refine (HC.out _).mono ?_; rintro e w1 ⟨rfl, hw1⟩)
    | ((with_reducible refine at_op (Op.store 23 (.tmp 4) (.tmp 9)) ?_)
       refine wpList_store_at at23'.i rfl (.tmp 4) (.tmp 9) rfl (w.heap.size + 1) 0 23 (bvs keyZ) (bvs x) rfl rfl (h2.q.below hw1 h2.q.lt) (by rw [bvs_length]; exact hx.out) (by rw [bvs_length]; simp [keyZ]) (bvs_one _) ?_
       intro w2 hb1 hg1 hs1))
  (try simp only [Exit.inBlock, Exit.then])
  rw [splice_keyZ _ hx.out] at hb1
  refine bodyPost_ret (ret_cell_tmp rfl at23' _ _ (w.heap.size + 1) 23 (bvs x) rfl hb1 (by rw [bvs_length]; exact hx.out)) rfl ?_
  exact ⟨rfl, (h2.b.trans (hw1.mono h2.b.size)).grown hg1 (Nat.le_trans h2.b.size hw1.size) (by intro k hk; cases hk; omega)⟩
end Go.Proofs.Ytehbahobkgoapaa
