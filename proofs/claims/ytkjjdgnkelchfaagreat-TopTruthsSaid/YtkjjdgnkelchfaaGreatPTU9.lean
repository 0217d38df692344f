import Derived.Test.YtkjjdgnkelchfaaGreatPTU8
set_option linter.unusedSimpArgs false
set_option linter.unusedVariables false
set_option maxRecDepth 100000
set_option maxHeartbeats 16000000
namespace Go.Proofs.YtkjjdgnkelchfaaGreat
open Go Go.RowKit
def fbN (x : Nat) (k : Int) (b : Bool) : Nat :=
  if k ≤ 0 then (if b then 255 else 0) else if k < 8 then (x &&& (255 - 255 / 2 ^ k.toNat)) ||| ((if b then 255 else 0) &&& (255 / 2 ^ k.toNat)) else x
theorem fb_mid : ∀ x, x < 256 → ∀ k, k < 8 → ∀ b : Bool, ((x &&& (255 - 255 / 2 ^ k)) ||| ((if b then 255 else 0) &&& (255 / 2 ^ k)) < 256 ∧
    ∀ e, e < 8 → ((x &&& (255 - 255 / 2 ^ k)) ||| ((if b then 255 else 0) &&& (255 / 2 ^ k))).testBit (7 - e) = if e < k then x.testBit (7 - e) else b) := by decide +kernel
theorem fb_all : ∀ b : Bool, ∀ e, e < 8 → (if b then 255 else 0 : Nat).testBit (7 - e) = b := by decide +kernel
theorem xqs (x : Nat) (hx : x < 256) (k : Int) (b : Bool) : fbN x k b < 256 := by
  unfold fbN
  split
  · split <;> omega
  · split
    · exact (fb_mid x hx k.toNat (by omega) b).1
    · exact hx
theorem fbN_bit (x : Nat) (hx : x < 256) (k : Int) (b : Bool) (e : Nat) (he : e < 8) : (fbN x k b).testBit (7 - e) = if (e : Int) < k then x.testBit (7 - e) else b := by
  unfold fbN
  split
  · rw [fb_all b e he, if_neg (by omega)]
  · split
    · rw [(fb_mid x hx k.toNat (by omega) b).2 e he]
      by_cases h : (e : Int) < k
      · rw [if_pos h, if_pos (by omega)]
      · rw [if_neg h, if_neg (by omega)]
    · rw [if_pos (by omega)]
def xdl (p : List UInt8) (d : Nat) (b : Bool) (k : Nat) : List UInt8 := (List.range 32).map fun i => if i < k then UInt8.ofNat (fbN (p.getD i 0).toNat ((d : Int) - 8 * (i : Int)) b) else p.getD i 0
theorem xbn (p : List UInt8) (d : Nat) (b : Bool) (k : Nat) : (xdl p d b k).length = 32 := by simp [xdl]
theorem xdc (p : List UInt8) (d : Nat) (b : Bool) (k i : Nat) (hi : i < 32) : (xdl p d b k).getD i 0 = if i < k then UInt8.ofNat (fbN (p.getD i 0).toNat ((d : Int) - 8 * (i : Int)) b) else p.getD i 0 := by
  unfold xdl; rw [List.getD_eq_getElem?_getD, List.getElem?_map, List.getElem?_range hi]; rfl
theorem xj7 {l m : List UInt8} (hl : l.length = 32) (hm : m.length = 32) (h : ∀ i, i < 32 → l.getD i 0 = m.getD i 0) : l = m := by
  apply List.ext_getElem?; intro i; by_cases hi : i < 32
  · have := h i hi
    rw [List.getD_eq_getElem?_getD, List.getD_eq_getElem?_getD, List.getElem?_eq_getElem (by omega), List.getElem?_eq_getElem (by omega)] at this; rw [List.getElem?_eq_getElem (by omega), List.getElem?_eq_getElem (by omega)]; simpa using this
  · rw [List.getElem?_eq_none (by omega), List.getElem?_eq_none (by omega)]
theorem xot (p : List UInt8) (d : Nat) (b : Bool) (hp : p.length = 32) : xdl p d b 0 = p :=
  xj7 (xbn _ _ _ _) hp fun i hi => by rw [xdc _ _ _ _ _ hi, if_neg (by omega)]
theorem xou (l : List UInt8) (k i : Nat) (x : UInt8) (hk : k < l.length) : (l.set k x).getD i 0 = if i = k then x else l.getD i 0 := by
  rw [List.getD_eq_getElem?_getD, List.getElem?_set]; by_cases h : k = i
  · subst h; rw [if_pos rfl, if_pos hk, if_pos rfl]; rfl
  · rw [if_neg h, if_neg (fun e => h e.symm), List.getD_eq_getElem?_getD]
theorem xov (p : List UInt8) (d : Nat) (b : Bool) (k : Nat) (hk : k < 32) : (xdl p d b k).set k (UInt8.ofNat (fbN (p.getD k 0).toNat ((d : Int) - 8 * (k : Int)) b)) = xdl p d b (k + 1) :=
  xj7 (by simp [xbn]) (xbn _ _ _ _) fun i hi => by
    rw [xou _ _ _ _ (by rw [xbn]; exact hk), xdc _ _ _ _ _ hi, xdc _ _ _ _ _ hi]; by_cases h : i = k
    · subst h; rw [if_pos rfl, if_pos (by omega)]
    · rw [if_neg h]
      by_cases h2 : i < k
      · rw [if_pos h2, if_pos (by omega)]
      · rw [if_neg h2, if_neg (by omega)]
theorem xow (p : List UInt8) (d : Nat) (b : Bool) (k : Nat) (hk : k < 32) (h8 : 8 ≤ (d : Int) - 8 * (k : Int)) : xdl p d b k = xdl p d b (k + 1) :=
  xj7 (xbn _ _ _ _) (xbn _ _ _ _) fun i hi => by
    rw [xdc _ _ _ _ _ hi, xdc _ _ _ _ _ hi]; by_cases h : i = k
    · subst h; rw [if_neg (by omega), if_pos (by omega)]
      unfold fbN; rw [if_neg (by omega), if_neg (by omega), UInt8.ofNat_toNat]
    · by_cases h2 : i < k
      · rw [if_pos h2, if_pos (by omega)]
      · rw [if_neg h2, if_neg (by omega)]
theorem xqt (p : List UInt8) (d : Nat) (b : Bool) (hp : p.length = 32) (hd : d ≤ 256) : xdl p d b 32 = be 32 (xha (nOf p) d b) := by
  apply key_of (xbn _ _ _ _) (xjn _ _ _ (xdi hp) hd); intro e he; rw [xsz _ _ _ _ he hd]; unfold tb; rw [xdc _ _ _ _ _ (by omega), if_pos (by omega), UInt8.toNat_ofNat_of_lt' (xqs _ (UInt8.toNat_lt _) _ _), fbN_bit _ (UInt8.toNat_lt _) _ _ _ (by omega)]; have e1 := xee p hp e he; unfold tb at e1; by_cases h : e < d
  · rw [if_pos h, if_pos (by omega), e1]
  · rw [if_neg h, if_neg (by omega)]
theorem mix_word (x z m : Nat) (hx : x < 256) (hz : z < 256) (hm : m < 8) :
    Value.int .u8 (bits .or .u8 (bits .andNot .u8 (x : Int) (255 / 2 ^ m)) (bits .and .u8 (z : Int) (255 / 2 ^ m))) = .int .u8 (((x &&& (255 - 255 / 2 ^ m)) ||| (z &&& (255 / 2 ^ m)) : Nat) : Int) := by
  have e2 : (255 : Int) / 2 ^ m = ((255 / 2 ^ m : Nat) : Int) := by simp
  have e3 : 255 / 2 ^ m < 256 := Nat.lt_of_le_of_lt (Nat.div_le_self _ _) (by omega); rw [e2, u8_andNot_nat _ _ hx e3, u8_and_nat _ _ hz e3, u8_or_nat _ _ (Nat.lt_of_le_of_lt Nat.and_le_left hx) (Nat.lt_of_le_of_lt Nat.and_le_left hz)]
theorem xm6 {α : Type} (L vs : List α) (h : vs.length = L.length) : splice L 0 vs = vs := by
  unfold splice; rw [List.drop_eq_nil_of_le (by omega)]; simp
theorem xco (q : List UInt8) (hq : q.length = 32) : splice (bvs keyZ) 0 (bvs q) = bvs q := xm6 _ _ (by rw [xae, xae, xbd, hq])
theorem xqu (n : Nat) (h : n < 256) : bv (UInt8.ofNat n) = .int .u8 (n : Int) := by
  unfold bv; rw [UInt8.toNat_ofNat_of_lt' h]
def keyE (b : Bool) : Nat := if b then 255 else 0
def xep (p : List UInt8) (d : Int) (b : Bool) : List UInt8 := if 0 ≤ d ∧ d ≤ 256 then be 32 (xha (nOf p) d.toNat b) else keyZ
def xit (d : Int) : Int := if 0 ≤ d ∧ d ≤ 256 then 0 else 2
theorem xfh (p : List UInt8) (d : Int) (b : Bool) : (xep p d b).length = 32 := by unfold xep; split; exact xb1 _ _; exact xbd
theorem xj8 (p : List UInt8) (d : Int) (b : Bool) (w : World) (hp : p.length = 32) (hd : -9223372036854775808 ≤ d ∧ d ≤ 9223372036854775807) :
    Calls Tryz.prog 247 #[arr8 p, .int .i64 d, .int .u8 (keyE b : Nat)] w fun e w' =>
      e = .returned (.tuple #[arr8 (xep p d b), .int .i64 (xit d)]) ∧ Below w.heap.size w w' := by
  have HP := hZ hp; have h2 := Two.mk' w 24 p keyZ; have hz8 : keyE b < 256 := by unfold keyE; split <;> omega
  unfold xep xit; by_cases hr : 0 ≤ d ∧ d ≤ 256
  · rw [if_pos hr, if_pos hr]
    obtain ⟨n, rfl⟩ := Int.eq_ofNat_of_zero_le hr.1; have hn : n ≤ 256 := by omega
    rw [Int.toNat_natCast, ← xqt p n b hp hn]; clear hr hd hp; have HF : Hid (keyE b = if b then 255 else 0) := rfl; generalize keyE b = z at *; unfold arr8; go_enter Tryz.func247, Tryz.ntmps247; go_wp2_with fail
    go_loopw [18] (fun i wr => ∃ k : Nat, k ≤ 32 ∧ i = .int .i64 (k : Int) ∧ Blk wr w.heap.size 24 (bvs (xdl p n b k)) ∧ Blk wr (w.heap.size + 1) 24 (bvs keyZ) ∧ Below w.heap.size w wr) (fun i _ => 32 - (intOf i).toNat)
    case atStart => exact ⟨0, by omega, by go_num, by rw [xot p n b HP.out]; exact h2.p, h2.q, h2.b⟩
    case round =>
      obtain ⟨k, hk, rfl, hb, hq, hw⟩ := hrel; by_cases hlt : k < 32
      · have hc : wr.cell? ⟨w.heap.size, k, none⟩ = some (.int .u8 ((p.getD k 0).toNat : Int)) := by
          rw [xhc hb (xbn _ _ _ _) k hlt, xdc _ _ _ _ _ hlt, if_neg (by omega)]
        have hf := hb.free k; have hx8 : (p.getD k 0).toNat < 256 := UInt8.toNat_lt _; have hsucc := hZ (xov p n b k hlt); have hsame := hZ (xow p n b k hlt); obtain ⟨x, hx⟩ : ∃ x, x = (p.getD k 0).toNat := ⟨_, rfl⟩; rw [← hx] at hc hx8; have HX := hZ hx; clear hx; by_cases hk0 : (n : Int) - 8 * (k : Int) ≤ 0
        · go_wp2_with fail
          go_roundw
          case rel =>
            have h1 := hb.set_ k (bv (UInt8.ofNat (fbN (p.getD k 0).toNat ((n : Int) - 8 * (k : Int)) b))); rw [xg6, hsucc.out, xqu _ (xqs _ (UInt8.toNat_lt _) _ _)] at h1; have e1 : fbN (p.getD k 0).toNat ((n : Int) - 8 * (k : Int)) b = z := by unfold fbN; rw [if_pos hk0]; exact HF.out.symm
            rw [e1] at h1; exact ⟨k + 1, by omega, by go_num, h1, hq.far (by simp) _, hw.setCell (Nat.le_refl _) _⟩
          case measure => simp only [intOf]; omega
        · obtain ⟨m, hm⟩ := Int.eq_ofNat_of_zero_le (show 0 ≤ (n : Int) - 8 * (k : Int) by omega)
          by_cases hk8 : m < 8
          · have hmix := mix_word x z m hx8 hz8 hk8
            rw [hm] at hsucc hk0; go_wp2_with fail; go_roundw
            case rel =>
              have h1 := hb.set_ k (bv (UInt8.ofNat (fbN (p.getD k 0).toNat (m : Int) b))); rw [xg6, hsucc.out, xqu _ (xqs _ (UInt8.toNat_lt _) _ _)] at h1
              have e1 : fbN (p.getD k 0).toNat (m : Int) b = (x &&& (255 - 255 / 2 ^ m)) ||| (z &&& (255 / 2 ^ m)) := by
                unfold fbN; rw [if_neg hk0, if_pos (by omega), Int.toNat_natCast, ← HX.out, HF.out]
              rw [e1] at h1; exact ⟨k + 1, by omega, by go_num, h1, hq.far (by simp) _, hw.setCell (Nat.le_refl _) _⟩
            case measure => simp only [intOf]; omega
          · have e8 := hsame.out (by omega)
            have E8 := hZ e8; clear e8; go_wp2_with fail; go_roundw
            case rel => exact ⟨k + 1, by omega, by go_num, by rw [← E8.out]; exact hb, hq, hw⟩
            case measure => simp only [intOf]; omega
      · obtain rfl : k = 32 := by omega
        go_wp2_with (first
          | ((with_reducible refine xax 48 ?_); refine xaa rfl _ (xa7 at23' (.tmp 3) rfl _ 24 (bvs (xdl p n b 32)) rfl hb (by rw [xae]; exact xbn _ _ _ _)) ?_)
          | ((with_reducible refine xdp (Op.store 24 (.tmp 6) (.tmp 48)) ?_)
             refine xal at23'.i rfl (.tmp 6) (.tmp 48) rfl (w.heap.size + 1) 0 24 (bvs keyZ) (bvs (xdl p n b 32)) rfl rfl hq (by rw [xae]; exact xbn _ _ _ _) (by rw [xae]; simp [keyZ]) (xbk _) ?_
             intro w1 hb1 hg1 hs1))
        refine Xf ?_; rw [xco _ (xbn _ _ _ _)] at hb1; refine bodyPost_ret (xak rfl at23' _ _ (w.heap.size + 1) 24 (bvs (xdl p n b 32)) rfl hb1 (by rw [xae]; exact xbn _ _ _ _)) rfl ?_; exact ⟨rfl, hw.grown hg1 hw.size (by intro k hk; cases hk; omega)⟩
  · rw [if_neg hr, if_neg hr]
    clear hp; unfold arr8; by_cases h0 : d < 0
    · go_enter Tryz.func247, Tryz.ntmps247
      go_wp2_with (
         (with_reducible refine xdp (Op.store 24 (.tmp 6) (.tmp 17)) ?_); refine xal at23'.i rfl (.tmp 6) (.tmp 17) rfl (w.heap.size + 1) 0 24 (bvs keyZ) (bvs keyZ) rfl rfl h2.q (by rw [xae]; exact xbd) (by rw [xae]; simp [keyZ]) (xbk _) ?_
         intro w1 hb1 hg1 hs1)
      refine Xf ?_; rw [xco _ xbd] at hb1; refine bodyPost_ret (xak rfl at23' _ _ (w.heap.size + 1) 24 (bvs keyZ) rfl hb1 (by rw [xae]; exact xbd)) rfl ?_; exact ⟨rfl, h2.b.grown hg1 h2.b.size (by intro k hk; cases hk; omega)⟩
    · have h1 : 256 < d := by omega
      go_enter Tryz.func247, Tryz.ntmps247
      go_wp2_with (
         (with_reducible refine xdp (Op.store 24 (.tmp 6) (.tmp 17)) ?_); refine xal at23'.i rfl (.tmp 6) (.tmp 17) rfl (w.heap.size + 1) 0 24 (bvs keyZ) (bvs keyZ) rfl rfl h2.q (by rw [xae]; exact xbd) (by rw [xae]; simp [keyZ]) (xbk _) ?_
         intro w1 hb1 hg1 hs1)
      refine Xf ?_; rw [xco _ xbd] at hb1; refine bodyPost_ret (xak rfl at23' _ _ (w.heap.size + 1) 24 (bvs keyZ) rfl hb1 (by rw [xae]; exact xbd)) rfl ?_; exact ⟨rfl, h2.b.grown hg1 h2.b.size (by intro k hk; cases hk; omega)⟩
theorem xtw (p : List UInt8) (d : Int) (w : World) (hp : p.length = 32) (hd : -9223372036854775808 ≤ d ∧ d ≤ 9223372036854775807) :
    Calls Tryz.prog 219 #[arr8 p, .int .i64 d] w fun e w' => e = .returned (.tuple #[arr8 (xep p d false), .int .i64 (xit d)]) ∧ Below w.heap.size w w' := by
  have HP := hZ hp; have h2 := Two.mk' w 24 p keyZ; have hx0 := xfh p d false; have hcall := fun W => xj8 p d false W hp hd
  generalize xep p d false = x at *; have hx := hZ hx0; have HC := hZ hcall; clear hx0 hcall hp; unfold arr8; go_enter Tryz.func219, Tryz.ntmps219
  go_wp2_with (first
    | ((with_reducible refine xax 6 ?_); refine xaa rfl _ (xa7 at23' (.tmp 2) rfl _ 24 (bvs p) rfl h2.p (by rw [xae]; exact HP.out)) ?_)
    | (go_at_call 247; refine (HC.out _).mono ?_; rintro e w1 ⟨rfl, hw1⟩)
    | ((with_reducible refine xdp (Op.store 24 (.tmp 4) (.tmp 9)) ?_)
       refine xal at23'.i rfl (.tmp 4) (.tmp 9) rfl (w.heap.size + 1) 0 24 (bvs keyZ) (bvs x) rfl rfl (h2.q.below hw1 h2.q.lt) (by rw [xae]; exact hx.out) (by rw [xae]; simp [keyZ]) (xbk _) ?_
       intro w2 hb1 hg1 hs1))
  refine Xf ?_; rw [xco _ hx.out] at hb1; refine bodyPost_ret (xak rfl at23' _ _ (w.heap.size + 1) 24 (bvs x) rfl hb1 (by rw [xae]; exact hx.out)) rfl ?_; exact ⟨rfl, (h2.b.trans (hw1.mono h2.b.size)).grown hg1 (Nat.le_trans h2.b.size hw1.size) (by intro k hk; cases hk; omega)⟩
theorem last_any (p : List UInt8) (d : Int) (w : World) (hp : p.length = 32) (hd : -9223372036854775808 ≤ d ∧ d ≤ 9223372036854775807) :
    Calls Tryz.prog 220 #[arr8 p, .int .i64 d] w fun e w' => e = .returned (.tuple #[arr8 (xep p d true), .int .i64 (xit d)]) ∧ Below w.heap.size w w' := by
  have HP := hZ hp; have h2 := Two.mk' w 24 p keyZ; have hx0 := xfh p d true; have hcall := fun W => xj8 p d true W hp hd
  generalize xep p d true = x at *; have hx := hZ hx0; have HC := hZ hcall; clear hx0 hcall hp; unfold arr8; go_enter Tryz.func220, Tryz.ntmps220
  go_wp2_with (first
    | ((with_reducible refine xax 6 ?_); refine xaa rfl _ (xa7 at23' (.tmp 2) rfl _ 24 (bvs p) rfl h2.p (by rw [xae]; exact HP.out)) ?_)
    | (go_at_call 247; refine (HC.out _).mono ?_; rintro e w1 ⟨rfl, hw1⟩)
    | ((with_reducible refine xdp (Op.store 24 (.tmp 4) (.tmp 9)) ?_)
       refine xal at23'.i rfl (.tmp 4) (.tmp 9) rfl (w.heap.size + 1) 0 24 (bvs keyZ) (bvs x) rfl rfl (h2.q.below hw1 h2.q.lt) (by rw [xae]; exact hx.out) (by rw [xae]; simp [keyZ]) (xbk _) ?_
       intro w2 hb1 hg1 hs1))
  refine Xf ?_; rw [xco _ hx.out] at hb1; refine bodyPost_ret (xak rfl at23' _ _ (w.heap.size + 1) 24 (bvs x) rfl hb1 (by rw [xae]; exact hx.out)) rfl ?_; exact ⟨rfl, (h2.b.trans (hw1.mono h2.b.size)).grown hg1 (Nat.le_trans h2.b.size hw1.size) (by intro k hk; cases hk; omega)⟩
def xe6 (p : List UInt8) (d : Int) : List UInt8 := if 0 ≤ d ∧ d < 256 then be 32 (xlk (nOf p) d.toNat) else keyZ
def xlv (d : Int) : Int := if 0 ≤ d ∧ d < 256 then 0 else 2
theorem xhk (p : List UInt8) (d : Int) : (xe6 p d).length = 32 := by unfold xe6; split; exact xb1 _ _; exact xbd
theorem xox : ∀ x, x < 256 → ∀ k, k < 8 → (x ^^^ (128 / 2 ^ k) < 256 ∧ ∀ e, e < 8 → (x ^^^ (128 / 2 ^ k)).testBit (7 - e) = if e = k then !x.testBit (7 - e) else x.testBit (7 - e)) := by decide +kernel
theorem flip_set (p : List UInt8) (n : Nat) (hp : p.length = 32) (hn : n < 256) : p.set (n / 8) (UInt8.ofNat ((p.getD (n / 8) 0).toNat ^^^ (128 / 2 ^ (n % 8)))) = be 32 (xlk (nOf p) n) := by
  apply key_of (by simp [hp]) (xn0 _ _ (xdi hp) hn); intro e he; have h1 := xox (p.getD (n / 8) 0).toNat (UInt8.toNat_lt _) (n % 8) (by omega); have e1 := xee p hp e he; rw [xll _ _ _ he hn, ← e1]; unfold tb; rw [xou _ _ _ _ (by omega)]; by_cases h : e / 8 = n / 8
  · rw [if_pos h, UInt8.toNat_ofNat_of_lt' h1.1, h1.2 _ (by omega), h]
    by_cases h2 : e = n
    · rw [if_pos (by omega), if_pos h2]
    · rw [if_neg (by omega), if_neg h2]
  · rw [if_neg h, if_neg (by rintro rfl; exact h rfl)]
theorem xor_word (x n : Nat) (hx : x < 256) : bits .xor .u8 (x : Int) (128 / 2 ^ ((n : Int) % 8).toNat) = ((x ^^^ (128 / 2 ^ (n % 8)) : Nat) : Int) := by
  have e1 : ((n : Int) % 8).toNat = n % 8 := by omega
  have e2 : (128 : Int) / 2 ^ (n % 8) = ((128 / 2 ^ (n % 8) : Nat) : Int) := by simp
  have e3 : 128 / 2 ^ (n % 8) < 256 := Nat.lt_of_le_of_lt (Nat.div_le_self _ _) (by omega); rw [e1, e2, u8_xor_nat _ _ hx e3]
theorem flip_any (p : List UInt8) (d : Int) (w : World) (hp : p.length = 32) (hd : -9223372036854775808 ≤ d ∧ d ≤ 9223372036854775807) :
    Calls Tryz.prog 168 #[arr8 p, .int .i64 d] w fun e w' => e = .returned (.tuple #[arr8 (xe6 p d), .int .i64 (xlv d)]) ∧ Below w.heap.size w w' := by
  have HP := hZ hp; have h2 := Two.mk' w 24 p keyZ; by_cases hr : 0 ≤ d ∧ d < 256
  · unfold xe6 xlv
    rw [if_pos hr, if_pos hr]; obtain ⟨n, rfl⟩ := Int.eq_ofNat_of_zero_le hr.1; have hn : n < 256 := by omega
    have hlx := hZ (flip_set p n hp hn); rw [Int.toNat_natCast]; clear hr hd; obtain ⟨x, hx⟩ : ∃ x, x = (p.getD (n / 8) 0).toNat := ⟨_, rfl⟩; have hx8 : x < 256 := by rw [hx]; exact UInt8.toNat_lt _
    obtain ⟨m, hmm⟩ : ∃ m, m = n / 8 := ⟨_, rfl⟩; have k2 : IntKind.i64.wrap ((n : Int) / 8) = (m : Int) := by rw [IntWalk.i64_in _ (by omega)]; omega
    have k3 : (m : Int) < 32 := by omega
    have kx := xor_word x n hx8; have hx8' : x ^^^ (128 / 2 ^ (n % 8)) < 256 := (xox x hx8 (n % 8) (by omega)).1; rw [← hx, ← hmm] at hlx; have HM := hZ hmm; have HX := hZ hx; clear hmm hx hp; generalize be 32 (xlk (nOf p) n) = y at *; generalize hz : x ^^^ (128 / 2 ^ (n % 8)) = z at *; have HZ := hZ hz; clear hz; unfold arr8; go_enter Tryz.func168, Tryz.ntmps168; go_wp2_with fail; generalize hW : World.alloc (World.alloc w _) _ = w0; have h3 : Two w w0 24 p keyZ := by rw [← hW]; exact h2
    clear h2 hW
    have hc : w0.cell? ⟨w.heap.size, m, none⟩ = some (.int .u8 (x : Int)) := by
      rw [HX.out, HM.out]; exact xhc h3.p HP.out _ (by omega)
    have hf := h3.p.free m; refine rB (fun W => W = w0.drew) [8] [5, 8] [0, 1, 2, 3, 4, 5, 6, 7, 8] 0 ?_; refine X2 ?_; have hS : (fun W => W = w0.drew) _ := rfl; refine X7 ?_; refine X7 ?_; refine X6 ?_; refine xb7 rfl rfl ?_; intro K hK; go_simp; refine (xn9 n _ (by omega) (by omega)).mono ?_; rintro e w1 ⟨rfl, rfl⟩; refine hK _ _ (fun _ => hS) ?_; clear hK; refine X7 ?_; refine xb7 rfl rfl ?_; intro K hK; go_simp; refine Xl ?_; clear hK; refine Xc ?_; have hy : Hid (y.length = 32) := by show _ = _; rw [← hlx.out]; simp [HP.out]
    have hb1 : Blk (w0.setCell ⟨w.heap.size, m, none⟩ (.int .u8 (z : Int))).drew w.heap.size 24 (bvs y) := by
      have h1 := h3.p.set_ m (bv (UInt8.ofNat z)); rw [xg6, hlx.out, xqu _ hx8'] at h1; exact h1.drew
    have hb2 : Blk (w0.setCell ⟨w.heap.size, m, none⟩ (.int .u8 (z : Int))).drew (w.heap.size + 1) 24 (bvs keyZ) := (h3.q.far (by simp) _).drew; have hB1 : Below w.heap.size w (w0.setCell ⟨w.heap.size, m, none⟩ (.int .u8 (z : Int))).drew := (h3.b.setCell (Nat.le_refl _) _).drew
    go_wp2_with (first
      | ((with_reducible refine xax 21 ?_); refine xaa rfl _ (xa7 at23' (.tmp 2) rfl _ 24 (bvs y) rfl hb1 (by rw [xae]; exact hy.out)) ?_)
      | ((with_reducible refine xdp (Op.store 24 (.tmp 4) (.tmp 21)) ?_)
         refine xal at23'.i rfl (.tmp 4) (.tmp 21) rfl (w.heap.size + 1) 0 24 (bvs keyZ) (bvs y) rfl rfl hb2 (by rw [xae]; exact hy.out) (by rw [xae]; simp [keyZ]) (xbk _) ?_
         intro w1 hb3 hg1 hs1))
    refine Xf ?_; rw [xco _ hy.out] at hb3; refine bodyPost_ret (xak rfl at23' _ _ (w.heap.size + 1) 24 (bvs y) rfl hb3 (by rw [xae]; exact hy.out)) rfl ?_; exact ⟨rfl, hB1.grown hg1 hB1.size (by intro k hk; cases hk; omega)⟩
  · unfold xe6 xlv
    rw [if_neg hr, if_neg hr]; clear hp; unfold arr8; by_cases h0 : d < 0
    · go_enter Tryz.func168, Tryz.ntmps168
      go_wp2_with (
         (with_reducible refine xdp (Op.store 24 (.tmp 4) (.tmp 12)) ?_); refine xal at23'.i rfl (.tmp 4) (.tmp 12) rfl (w.heap.size + 1) 0 24 (bvs keyZ) (bvs keyZ) rfl rfl h2.q (by rw [xae]; exact xbd) (by rw [xae]; simp [keyZ]) (xbk _) ?_
         intro w1 hb1 hg1 hs1)
      refine Xf ?_; rw [xco _ xbd] at hb1; refine bodyPost_ret (xak rfl at23' _ _ (w.heap.size + 1) 24 (bvs keyZ) rfl hb1 (by rw [xae]; exact xbd)) rfl ?_; exact ⟨rfl, h2.b.grown hg1 h2.b.size (by intro k hk; cases hk; omega)⟩
    · have h1 : 256 ≤ d := by omega
      go_enter Tryz.func168, Tryz.ntmps168
      go_wp2_with (
         (with_reducible refine xdp (Op.store 24 (.tmp 4) (.tmp 12)) ?_); refine xal at23'.i rfl (.tmp 4) (.tmp 12) rfl (w.heap.size + 1) 0 24 (bvs keyZ) (bvs keyZ) rfl rfl h2.q (by rw [xae]; exact xbd) (by rw [xae]; simp [keyZ]) (xbk _) ?_
         intro w1 hb1 hg1 hs1)
      refine Xf ?_; rw [xco _ xbd] at hb1; refine bodyPost_ret (xak rfl at23' _ _ (w.heap.size + 1) 24 (bvs keyZ) rfl hb1 (by rw [xae]; exact xbd)) rfl ?_; exact ⟨rfl, h2.b.grown hg1 h2.b.size (by intro k hk; cases hk; omega)⟩
def tagE : D32 := ⟨shaL [0], xbb _⟩
def tagV (l : List UInt8) : D32 := ⟨shaL (3 :: l), xbb _⟩
def tagL (k v : D32) : D32 := ⟨shaL (1 :: (k.l ++ v.l)), xbb _⟩
def tagI (a b : D32) : D32 := ⟨shaL (2 :: (a.l ++ b.l)), xbb _⟩
def shaD (l : List UInt8) : D32 := ⟨shaL l, xbb _⟩
def xgm (p : D32) (d : Int) (b : Bool) : D32 := ⟨xep p.l d b, xfh _ _ _⟩
def xdm (p : D32) (d : Int) : D32 := ⟨xe6 p.l d, xhk _ _⟩
abbrev D32.a (x : D32) : Value := .agg x.c.toArray
section
variable (w : World)
theorem empty_d : Calls Tryz.prog 43 #[] w fun e w' => e = .returned tagE.a ∧ Below w.heap.size w w' := xtp w
theorem xhl (A : Option Addr) (n c : Nat) (l : List UInt8) (hr : Rd w A (bvs l)) (hl : l.length = n) (hcap : n ≤ c) (hmax : c ≤ maxLen) (hn : n ≤ 140737488351232) :
    Calls Tryz.prog 42 #[.slice A n c] w fun e w' => e = .returned (tagV l).a ∧ Below w.heap.size w w' := xtq A n c l w hr hl hcap hmax hn
theorem xm7 (k v : D32) : Calls Tryz.prog 41 #[k.a, v.a] w fun e w' => e = .returned (tagL k v).a ∧ Below w.heap.size w w' := leaf_any k.l v.l w k.h v.h
theorem xhm (k v : D32) : Calls Tryz.prog 44 #[k.a, v.a] w fun e w' => e = .returned (tagI k v).a ∧ Below w.heap.size w w' := xtr k.l v.l w k.h v.h
theorem xcw (p q : D32) : Calls Tryz.prog 14 #[p.a, q.a] w fun e w' => e = .returned (.int .i64 (cmpZ (nOf p.l) (nOf q.l))) ∧ Below w.heap.size w w' := xoa p.l q.l w p.h q.h
theorem xoy (p q : D32) : Calls Tryz.prog 147 #[p.a, q.a] w fun e w' => e = .returned (.int .i64 (comm p.l q.l : Nat)) ∧ Below w.heap.size w w' := xj6 p.l q.l w p.h q.h
theorem xhn (p q : D32) (d : Int) (hd : -9223372036854775808 ≤ d ∧ d ≤ 9223372036854775807) : Calls Tryz.prog 105 #[p.a, q.a, .int .i64 d] w fun e w' => e = .returned (.bool (xa1 p.l q.l d)) ∧ Below w.heap.size w w' := xtv p.l q.l d w p.h q.h hd
theorem bit_d (p : D32) (d : Int) (hd : -9223372036854775808 ≤ d ∧ d ≤ 9223372036854775807) : Calls Tryz.prog 150 #[p.a, .int .i64 d] w fun e w' => e = .returned (.int .i64 (bitZ p.l d)) ∧ Below w.heap.size w w' := bit_any p.l d w p.h hd
theorem xm8 (p : D32) (d : Int) (hd : -9223372036854775808 ≤ d ∧ d ≤ 9223372036854775807) : Calls Tryz.prog 219 #[p.a, .int .i64 d] w fun e w' => e = .returned (.tuple #[(xgm p d false).a, .int .i64 (xit d)]) ∧ Below w.heap.size w w' := xtw p.l d w p.h hd
theorem last_d (p : D32) (d : Int) (hd : -9223372036854775808 ≤ d ∧ d ≤ 9223372036854775807) : Calls Tryz.prog 220 #[p.a, .int .i64 d] w fun e w' => e = .returned (.tuple #[(xgm p d true).a, .int .i64 (xit d)]) ∧ Below w.heap.size w w' := last_any p.l d w p.h hd
theorem flip_d (p : D32) (d : Int) (hd : -9223372036854775808 ≤ d ∧ d ≤ 9223372036854775807) : Calls Tryz.prog 168 #[p.a, .int .i64 d] w fun e w' => e = .returned (.tuple #[(xdm p d).a, .int .i64 (xlv d)]) ∧ Below w.heap.size w w' := flip_any p.l d w p.h hd
theorem of_d (A : Option Addr) (n c : Nat) (p : D32) (hr : Rd w A (bvs p.l)) (hl : n = 32) (hc : n ≤ c) : Calls Tryz.prog 40 #[.slice A n c] w fun e w' => e = .returned (.tuple #[p.a, .int .i64 0]) ∧ Below w.heap.size w w' := by
  have h := of_any A n c p.l w hr (by rw [p.h, hl]) (by omega) hc; rw [if_pos p.h, if_pos p.h] at h; exact h
theorem xqv (k v : D32) : Calls Tryz.prog 161 #[k.a, v.a] w fun e w' => ∃ u, e = .returned u ∧ OwnB w' w.heap.size 5 u (1 :: (k.l ++ v.l)) ∧ Below w.heap.size w w' := xsv k.l v.l w k.h v.h
theorem xfz (k v : D32) : Calls Tryz.prog 162 #[k.a, v.a] w fun e w' => ∃ u, e = .returned u ∧ OwnB w' w.heap.size 5 u (2 :: (k.l ++ v.l)) ∧ Below w.heap.size w w' := xqc k.l v.l w k.h v.h
theorem sum_d (A : Option Addr) (n c : Nat) (b : List UInt8) (h : Tx w A n c b) (hn : n ≤ 140737488351232) : Calls Tryz.prog 117 #[.slice A n c] w fun e w' => e = .returned (shaD b).a ∧ Below w.heap.size w w' := xqr A n c b w h (by omega)
end
theorem xf0 (w : World) (p : D32) (d : Nat) (hd : d < 256) : Calls Tryz.prog 150 #[p.a, .int .i64 (d : Int)] w fun e w' => e = .returned (.int .i64 ((tb p.l d).toNat : Int)) ∧ Below w.heap.size w w' := by
  have h := bit_d w p (d : Int) (by omega); rwa [show bitZ p.l (d : Int) = ((tb p.l d).toNat : Int) by unfold bitZ; rw [if_pos ⟨by omega, by omega⟩, Int.toNat_natCast]] at h
structure StP (D : Nat → Prop) (w : World) (gs g : Nat) (σ : Sb) (vs vf : Sv) : Prop where
  blk : Blk w gs 256 [.pointer (some ⟨g, 0, none⟩)]
  own : D gs
  sb : SbP D w g σ vs vf
def StW (D : Nat → Prop) (w : World) (gs : Nat) (σ : Sb) : Prop := ∃ g vs vf, StP D w gs g σ vs vf
def Got (σ : Sb) (h : Int) (n : Nd) (val : List UInt8) (ok : Bool) : Prop :=
  (ok = true ∧ ∃ i : Nat, h = (i : Int) + 1 ∧ ∃ hi : i < σ.slots.length, σ.slots[i].nd = n ∧ σ.slots[i].val = val ∧ σ.slots[i].count ≠ 0) ∨ (ok = false ∧ h < 1 ∧ n = Nd.z ∧ val = [])
section
variable {D : Nat → Prop} {w w' : World} {gs g : Nat} {σ : Sb} {vs vf : Sv}
theorem StP.fr (h : StP D w gs g σ vs vf) {T : Nat → Prop} (hf : Fr T w w') (hT : ∀ k, D k → ¬ T k) : StP D w' gs g σ vs vf := ⟨h.blk.fr hf (hT gs h.own), h.own, h.sb.fr hf hT⟩
theorem StP.below (h : StP D w gs g σ vs vf) (hb : Below w.heap.size w w') : StP D w' gs g σ vs vf := h.fr (T := fun _ => False) (Fr.of_below hb) (fun _ _ f => f)
theorem StW.below (h : StW D w gs σ) (hb : Below w.heap.size w w') : StW D w' gs σ := by
  obtain ⟨g, vs, vf, h⟩ := h; exact ⟨g, vs, vf, h.below hb⟩
theorem StP.c (h : StP D w gs g σ vs vf) : w.cell? ⟨gs, 0, none⟩ = some (.pointer (some ⟨g, 0, none⟩)) := by rw [h.blk.cell]; rfl
theorem StP.sbs (h : StP D w gs g σ vs vf) : ¬ SbS g vs vf gs := by
  rintro (e | e | e)
  · rw [e] at h
    exact h.blk.ne h.sb.blk (by decide) rfl
  · obtain ⟨c, hc⟩ := xcd h.sb.slots e
    exact h.blk.ne hc (by decide) rfl
  · obtain ⟨c, hc⟩ := xcd h.sb.free e
    exact h.blk.ne hc (by decide) rfl
theorem xeq (h : StW D w gs σ) : Calls Tryz.prog 132 #[.pointer (some ⟨gs, 0, none⟩)] w fun e w' => e = .returned (.bool false) ∧ w = w' := by
  obtain ⟨g, vs, vf, h⟩ := h; have hc := h.c; have HL := Loc.start w; clear h; go_enter Tryz.func132, Tryz.ntmps132; go_upto_region 0 with fail; refine X1k ?_; go_upto_region 1 with fail; refine X1m ?_; refine X1q ?_; refine xab rfl _ (xaf xm1 _ rfl _ rfl) ?_; refine X5 ?_; refine xab rfl _ (xcv sc252 HL _ rfl _ rfl _ (by with_reducible assumption)) ?_; refine X1w ?_; go_wp2_with fail; go_ret; exact ⟨rfl, rfl⟩
theorem xgv (h : StW D w gs σ) (z : Int) (n : Nd) (val : List UInt8) (ok : Bool) (hG : Got σ z n val ok) : Calls Tryz.prog 133 #[.pointer (some ⟨gs, 0, none⟩), .int .i64 z] w fun e w' => e = .returned (.tuple #[.agg n.cells.toArray, .bool ok]) ∧ Below w.heap.size w w' := by
  have HW := hZ h; obtain ⟨g, vs, vf, h⟩ := h; have hc := h.c; have HH := hZ h.sb; clear h; have HL := Loc.start w; rcases hG with ⟨rfl, i, hz, hi, hn, hv, hct⟩ | ⟨rfl, hz, hn, hv⟩
  · subst hn
    have HZ := hZ (And.intro hz hct); clear hz hct; go_enter Tryz.func133, Tryz.ntmps133; go_upto_region 0 with fail; refine Xv ?_; refine X2k ?_; clear HL; intro g4 w HL; go_upto_region 1 with fail; refine X47 ?_; intro K hK; (with_reducible refine (xeq (HW.out.below HL.below)).mono ?_); rintro e w ⟨rfl, rfl⟩; refine X23 ?_; clear hK K; go_upto_region 3 with fail; refine X16 ?_; refine X48 ?_; refine X5 ?_; refine X49 ?_; refine X4a ?_; intro K hK; refine xad cf192 rfl _ rfl ?_; refine X1z ?_; (with_reducible refine (xqo (HH.out.below HL.below) z i HZ.out.1 hi HZ.out.2).mono ?_); refine X4n ?_; clear hK K; intro g6 w HL; go_upto_region 4 with fail; refine Xv ?_; refine X2w ?_; refine X17 ?_; refine X1l ?_; refine X5 ?_; refine X2s ?_; refine X4k ?_; clear HL; intro w HL; go_wp2_with fail; refine Xf ?_; refine X2v ?_; exact ⟨rfl, HL.below⟩
  · subst hn
    go_enter Tryz.func133, Tryz.ntmps133; go_upto_region 0 with fail; refine Xv ?_; refine X2k ?_; clear HL; intro g4 w HL; go_upto_region 1 with fail; refine X47 ?_; intro K hK; (with_reducible refine (xeq (HW.out.below HL.below)).mono ?_); rintro e w ⟨rfl, rfl⟩; refine X23 ?_; clear hK K; go_upto_region 3 with fail; refine X16 ?_; refine X48 ?_; refine X5 ?_; refine X49 ?_; refine X4a ?_; intro K hK; refine xad cf192 rfl _ rfl ?_; refine X1z ?_; (with_reducible refine (xtm (HH.out.below HL.below) z hz).mono ?_); refine X4n ?_; clear hK K; intro g6 w HL; go_upto_region 4 with fail; refine Xv ?_; refine X2w ?_; refine X17 ?_; refine X1l ?_; refine X5 ?_; refine X2s ?_; refine X4k ?_; clear HL; intro w HL; go_wp2_with fail; refine Xf ?_; refine X2v ?_; exact ⟨rfl, HL.below⟩
theorem xjf (h : StW D w gs σ) (z : Int) (n : Nd) (val : List UInt8) (ok : Bool) (hG : Got σ z n val ok) : Calls Tryz.prog 136 #[.pointer (some ⟨gs, 0, none⟩), .int .i64 z] w fun e w' => e = .returned (.int .u8 (n.kind : Int)) ∧ Below w.heap.size w w' := by
  have HL := Loc.start w; go_enter Tryz.func136, Tryz.ntmps136; go_upto_region 0 with fail; refine X1k ?_; go_upto_region 1 with fail; refine X4p ?_; intro K hK; refine X4q ?_; refine X4r ?_; clear hK K; intro g5 w HL; go_upto_region 2 with fail; refine Xv ?_; refine X4s ?_; refine X5 ?_; refine X4t ?_; refine X1c ?_; go_wp2_with fail; go_ret; exact ⟨rfl, HL.below⟩
theorem st_size (h : StW D w gs σ) (z : Int) (n : Nd) (val : List UInt8) (ok : Bool) (hG : Got σ z n val ok) : Calls Tryz.prog 155 #[.pointer (some ⟨gs, 0, none⟩), .int .i64 z] w fun e w' => e = .returned (.int .i64 n.size) ∧ Below w.heap.size w w' := by
  have HL := Loc.start w; go_enter Tryz.func155, Tryz.ntmps155; go_upto_region 0 with fail; refine X1k ?_; go_upto_region 1 with fail; refine X4p ?_; intro K hK; refine X4q ?_; refine X4r ?_; clear hK K; intro g5 w HL; go_upto_region 2 with fail; refine Xv ?_; refine xaa rfl _ (xaf xmz _ rfl _ rfl) ?_; refine X5 ?_; refine xaa rfl _ (xag sc3 HL _ rfl _ _ rfl _ _ _ (.head _) (Nd.g_size _)) ?_; refine X1c ?_; go_wp2_with fail; go_ret; exact ⟨rfl, HL.below⟩
theorem st_held (h : StW D w gs σ) (z : Int) (n : Nd) (val : List UInt8) (ok : Bool) (hG : Got σ z n val ok) : Calls Tryz.prog 207 #[.pointer (some ⟨gs, 0, none⟩), .int .i64 z] w fun e w' => e = .returned (.int .i64 n.held) ∧ Below w.heap.size w w' := by
  have HL := Loc.start w; go_enter Tryz.func207, Tryz.ntmps207; go_upto_region 0 with fail; refine X1k ?_; go_upto_region 1 with fail; refine X4p ?_; intro K hK; refine X4q ?_; refine X4r ?_; clear hK K; intro g5 w HL; go_upto_region 2 with fail; refine Xv ?_; refine X4u ?_; refine X4v ?_; refine X1c ?_; go_wp2_with fail; go_ret; exact ⟨rfl, HL.below⟩
theorem st_sides (h : StW D w gs σ) (z : Int) (n : Nd) (val : List UInt8) (ok : Bool) (hG : Got σ z n val ok) : Calls Tryz.prog 138 #[.pointer (some ⟨gs, 0, none⟩), .int .i64 z] w fun e w' => e = .returned (.tuple #[.int .i64 n.left, .int .i64 n.right]) ∧ Below w.heap.size w w' := by
  have HL := Loc.start w; go_enter Tryz.func138, Tryz.ntmps138; go_upto_region 0 with fail; refine X32 ?_; go_upto_region 1 with fail; refine X4p ?_; intro K hK; refine X4q ?_; refine X4n ?_; clear hK K; intro g6 w HL; go_upto_region 2 with fail; refine rB (Loc.P HL) [] [] [0, 1, 2, 3, 4, 5] 0 ?_; refine X37 ?_; intro HL; refine xac rfl rfl HL (fun W hW => xaf fa230_6 _ rfl _ rfl) ?_; refine X5 ?_; refine xac rfl rfl HL (fun W hW => xag sc3 hW _ rfl _ _ rfl _ _ _ (.head _) (Nd.g_left _)) ?_; refine X5 ?_; refine xac rfl rfl HL (fun W hW => xaf fa230_7 _ rfl _ rfl) ?_; refine X5 ?_; refine xac rfl rfl HL (fun W hW => xag sc3 hW _ rfl _ _ rfl _ _ _ (.head _) (Nd.g_right _)) ?_; refine X5 ?_; refine X4y ?_; go_wp2_with fail; go_ret2; exact ⟨rfl, HL.below⟩
theorem xqw (h : StW D w gs σ) (z : Int) (n : Nd) (val : List UInt8) (ok : Bool) (hG : Got σ z n val ok) : Calls Tryz.prog 148 #[.pointer (some ⟨gs, 0, none⟩), .int .i64 z] w fun e w' => e = .returned (.agg n.key.c.toArray) ∧ Below w.heap.size w w' := by
  have HL := Loc.start w; go_enter Tryz.func148, Tryz.ntmps148; go_upto_region 0 with fail; refine Xv ?_; refine xah zr24 rfl rfl HL ?_; clear HL; intro g4 w HL; refine X22 ?_; go_upto_region 1 with fail; refine X4p ?_; intro K hK; refine X4q ?_; refine X4r ?_; clear hK K; intro g5 w HL; go_upto_region 2 with fail; refine Xv ?_; refine X4z ?_; refine X5 ?_; refine X50 ?_; refine X51 ?_; refine X3j ?_; clear HL; intro w HL; go_wp2_with fail; refine Xf ?_; refine X52 ?_; exact ⟨rfl, HL.below⟩
theorem xoz (h : StW D w gs σ) (z : Int) (n : Nd) (val : List UInt8) (hG : Got σ z n val true) : Calls Tryz.prog 243 #[.pointer (some ⟨gs, 0, none⟩), .int .i64 z] w fun e w' => e = .returned (.int .i64 n.depth) ∧ Below w.heap.size w w' := by
  have HL := Loc.start w; go_enter Tryz.func243, Tryz.ntmps243; go_upto_region 0 with fail; refine X1k ?_; go_upto_region 1 with fail; refine X4p ?_; intro K hK; refine X53 ?_; refine X4r ?_; clear hK K; intro g5 w HL; go_upto_region 2 with fail; refine X2r ?_; go_upto_region 4 with fail; refine Xv ?_; refine xaa rfl _ (xaf xmx _ rfl _ rfl) ?_; refine X5 ?_; refine xaa rfl _ (xag sc3 HL _ rfl _ _ rfl _ _ _ (.head _) (Nd.g_depth _)) ?_; refine X1c ?_; go_wp2_with fail; go_ret; exact ⟨rfl, HL.below⟩
theorem xic (h : StW D w gs σ) (z : Int) (n : Nd) (val : List UInt8) (hG : Got σ z n val true) : Calls Tryz.prog 83 #[.pointer (some ⟨gs, 0, none⟩), .int .i64 z] w fun e w' => e = .returned (.agg n.dig.c.toArray) ∧ Below w.heap.size w w' := by
  have k1 : (z == 0) = false := by
    rcases hG with ⟨_, i, hz, _⟩ | ⟨e, _⟩
    · simp; omega
    · cases e
  have HL := Loc.start w; go_enter Tryz.func83, Tryz.ntmps83; go_upto_region 0 with fail; refine Xv ?_; refine xah zr23 rfl rfl HL ?_; clear HL; intro g4 w HL; refine X22 ?_; go_upto_region 1 with fail; refine X47 ?_; intro K hK; refine X54 ?_; rintro e w ⟨rfl, rfl⟩; refine X23 ?_; clear hK K; go_upto_region 3 with fail; refine X2r ?_; go_upto_region 5 with fail; refine X4p ?_; intro K hK; refine X53 ?_; refine X4r ?_; clear hK K; intro g5 w HL; go_upto_region 6 with fail; refine Xv ?_; refine xaa rfl _ (xaf fa230_0 _ rfl _ rfl) ?_; refine X5 ?_; refine xaa rfl _ (xaf fa228_0 _ rfl _ rfl) ?_; refine X5 ?_; refine xaa rfl _ (xau ag23 HL _ rfl _ _ rfl _ _ _ (.head _) (Nd.g_dig _) (D32.cl _)) ?_; refine X56 ?_; refine X3j ?_; clear HL; intro w HL; go_wp2_with fail; refine Xf ?_
  refine bodyPost_ret (xci rfl ag23 _ _ g4 23 _ rfl (HL.blk (.tail _ (.head _))) (D32.cl _)) rfl ?_; exact ⟨rfl, HL.below⟩
theorem xiu (h : StW D w gs σ) : Calls Tryz.prog 96 #[.pointer (some ⟨gs, 0, none⟩)] w fun e w' => e = .returned (.int .i64 (σ.used : Int)) ∧ w = w' := by
  have HW := hZ h; obtain ⟨g, vs, vf, h⟩ := h; have hc := h.c; have HH := hZ h.sb; clear h; have HL := Loc.start w; go_enter Tryz.func96, Tryz.ntmps96; go_upto_region 0 with fail; refine X1k ?_; go_upto_region 1 with fail; refine X47 ?_; intro K hK; (with_reducible refine (xeq HW.out).mono ?_); rintro e w ⟨rfl, rfl⟩; refine X23 ?_; clear hK K; go_upto_region 3 with fail; refine X16 ?_; refine X48 ?_; refine X5 ?_; refine X49 ?_; refine X57 ?_; intro K hK; refine xad cf156 rfl _ rfl ?_; refine X1z ?_; (with_reducible refine (sb_len HH.out).mono ?_); rintro e w ⟨rfl, rfl⟩; refine X2q ?_; clear hK K; go_wp2_with fail; go_ret; exact ⟨rfl, rfl⟩
theorem xho (h : StW D w gs σ) : Calls Tryz.prog 142 #[.pointer (some ⟨gs, 0, none⟩)] w fun e w' => e = .returned (.int .i64 (σ.room : Int)) ∧ w = w' := by
  have HW := hZ h; obtain ⟨g, vs, vf, h⟩ := h; have hc := h.c; have HH := hZ h.sb; clear h; have HL := Loc.start w; go_enter Tryz.func142, Tryz.ntmps142; go_upto_region 0 with fail; refine X1k ?_; go_upto_region 1 with fail; refine X47 ?_; intro K hK; (with_reducible refine (xeq HW.out).mono ?_); rintro e w ⟨rfl, rfl⟩; refine X23 ?_; clear hK K; go_upto_region 3 with fail; refine X16 ?_; refine X48 ?_; refine X5 ?_; refine X49 ?_; refine X57 ?_; intro K hK; refine xad cf206 rfl _ rfl ?_; refine X1z ?_; (with_reducible refine (sb_room HH.out).mono ?_); rintro e w ⟨rfl, rfl⟩; refine X2q ?_; clear hK K; go_wp2_with fail; go_ret; exact ⟨rfl, rfl⟩
end
section
variable {D : Nat → Prop} {w w' : World} {gs g : Nat} {σ : Sb} {vs vf : Sv}
theorem StP.sw (h : StP D w gs g σ vs vf) : StW D w gs σ := ⟨g, vs, vf, h⟩
theorem ValOk.below {x : Sv} {l : List UInt8} (h : ValOk D w g vs vf x l) (hb : Below w.heap.size w w') : ValOk D w' g vs vf x l := h.fr (T := fun _ => False) (Fr.of_below hb) (fun _ f => f.elim)
theorem Got.val (h : StW D w gs σ) {z : Int} {n : Nd} {val : List UInt8} {ok : Bool} (hG : Got σ z n val ok) : Rd w n.vs.A (bvs val) ∧ val.length = n.vs.n ∧ n.vs.n ≤ n.vs.c := by
  obtain ⟨g, vs, vf, h⟩ := h; rcases hG with ⟨rfl, i, hz, hi, rfl, rfl, hct⟩ | ⟨rfl, hz, rfl, rfl⟩
  · obtain ⟨h1, h2⟩ := h.sb.vals _ (List.getElem_mem hi)
    exact ⟨h1.rd, h1.len, h1.cap⟩
  · exact ⟨Rd.nil _ _, rfl, Nat.le_refl _⟩
theorem st_value (h : StW D w gs σ) (z : Int) (n : Nd) (val : List UInt8) (ok : Bool) (hG : Got σ z n val ok) (hv : val.length ≤ 1024) : Calls Tryz.prog 153 #[.pointer (some ⟨gs, 0, none⟩), .int .i64 z] w fun e w' => ∃ v, e = .returned v ∧ OwnB w' w.heap.size 5 v val ∧ Below w.heap.size w w' := by
  obtain ⟨hr, hl, hc⟩ := hG.val h; have hl' := hZ hl; clear hl; have HL := Loc.start w; obtain ⟨w0, rfl⟩ := eW w; go_enter Tryz.func153, Tryz.ntmps153; go_upto_region 0 with fail; refine X1k ?_; go_upto_region 1 with fail; refine X4p ?_; intro K hK; refine X4q ?_; refine X4r ?_; clear hK K; intro g5 w HL; go_upto_region 2 with fail; refine Xv ?_; refine xaa rfl _ (xaf fa230_4 _ rfl _ rfl) ?_; refine X5 ?_; refine xaa rfl _ (xag sc25 HL _ rfl _ _ rfl _ _ _ (.head _) (Nd.g_vs _)) ?_; refine X5 ?_; refine xb8 bt rfl _ _ rfl w0.heap.size (.slice none 0 0) [] rfl (OwnB.nil _ _ _) n.vs.A n.vs.n n.vs.c val rfl hl'.out (HL.rdO hr) (by have := hl'.out; simp; omega) HL.fr.size ?_; intro v1 w1 ho1 hg1 _; have hb1 : Below w0.heap.size w0 w1 := HL.below.grown hg1 HL.fr.size (by intro k hk; cases hk); clear HL; refine X12 ?_; go_wp2_with fail; go_ret
  exact ⟨_, rfl, by simpa using ho1, hb1⟩
theorem xo0 (h : StW D w gs σ) : Calls Tryz.prog 154 #[.pointer (some ⟨gs, 0, none⟩), .int .i64 0] w fun e w' => e = .returned (.int .i64 0) ∧ w = w' := by
  have HL := Loc.start w; go_enter Tryz.func154, Tryz.ntmps154; go_upto_region 0 with fail; refine X1k ?_; go_upto_region 1 with fail; refine X47 ?_; intro K hK; (with_reducible refine (xeq h).mono ?_); rintro e w ⟨rfl, rfl⟩; refine X23 ?_; clear hK K; go_upto_region 3 with fail; refine X2r ?_; go_upto_region 4 with fail; refine X1k ?_; go_wp2_with fail; go_ret; exact ⟨rfl, rfl⟩
theorem xm9 (h : StW D w gs σ) (z : Int) (n : Nd) (val : List UInt8) (hG : Got σ z n val true) (hd : n.kind = 1 ∨ (n.kind = 2 ∧ n.depth = 0)) : Calls Tryz.prog 154 #[.pointer (some ⟨gs, 0, none⟩), .int .i64 z] w fun e w' => e = .returned (.int .i64 0) ∧ Below w.heap.size w w' := by
  have k1 : (z == 0) = false := by
    rcases hG with ⟨_, i, hz, _⟩ | ⟨e, _⟩
    · simp; omega
    · cases e
  have HL := Loc.start w; rcases hd with hd | ⟨hd, hd2⟩
  · have k2 : ((n.kind : Int) == 2) = false := by rw [hd]; rfl
    clear hd; go_enter Tryz.func154, Tryz.ntmps154; go_upto_region 0 with fail; refine X1k ?_; go_upto_region 1 with fail; refine X47 ?_; intro K hK; refine X54 ?_; rintro e w ⟨rfl, rfl⟩; refine X23 ?_; clear hK K; go_upto_region 3 with fail; refine X2r ?_; go_upto_region 5 with fail; refine X4p ?_; intro K hK; refine X53 ?_; refine X4r ?_; clear hK K; intro g5 w HL; go_upto_region 6 with fail; refine X2r ?_; go_upto_region 8 with fail; refine Xv ?_; refine X4s ?_; refine X5 ?_; refine X4t ?_; refine X27 ?_; refine X59 ?_; go_upto_region 10 with fail; refine X1k ?_; go_wp2_with fail; go_ret; exact ⟨rfl, HL.below⟩
  · have k2 : ((n.kind : Int) == 2) = true := by rw [hd]; rfl
    have k3 : (n.depth != 0) = false := by rw [hd2]; rfl
    clear hd hd2; go_enter Tryz.func154, Tryz.ntmps154; go_upto_region 0 with fail; refine X1k ?_; go_upto_region 1 with fail; refine X47 ?_; intro K hK; refine X54 ?_; rintro e w ⟨rfl, rfl⟩; refine X23 ?_; clear hK K; go_upto_region 3 with fail; refine X2r ?_; go_upto_region 5 with fail; refine X4p ?_; intro K hK; refine X53 ?_; refine X4r ?_; clear hK K; intro g5 w HL; go_upto_region 6 with fail; refine X2r ?_; go_upto_region 8 with fail; refine Xv ?_; refine X4s ?_; refine X5 ?_; refine X4t ?_; refine X5a ?_; refine xab rfl _ (xaf xmx _ rfl _ rfl) ?_; refine X5b ?_; refine X2d ?_; go_upto_region 10 with fail; refine X1k ?_; go_wp2_with fail; go_ret; exact ⟨rfl, HL.below⟩
def Sb.call (σ : Sb) (i : Nat) (hi : i < σ.slots.length) (by_ : Int) : Sb := σ.put i ⟨{ σ.slots[i].nd with held := σ.slots[i].nd.held + by_ }, σ.slots[i].count, σ.slots[i].val⟩
theorem xfi (h : StP D w gs g σ vs vf) (z by_ : Int) (i : Nat) (hz : z = (i : Int) + 1) (hi : i < σ.slots.length) (hc : σ.slots[i].count ≠ 0) (hb : -4611686018427387904 ≤ σ.slots[i].nd.held + by_ ∧ σ.slots[i].nd.held + by_ ≤ 4611686018427387904) :
    Calls Tryz.prog 189 #[.pointer (some ⟨gs, 0, none⟩), .int .i64 z, .int .i64 by_] w fun e w' => e = .returned (.tuple #[]) ∧ StP D w' gs g (σ.call i hi by_) vs vf ∧ Fr (SbS g vs vf) w w' := by
  have hG : Got σ z σ.slots[i].nd σ.slots[i].val true := .inl ⟨rfl, i, hz, hi, rfl, rfl, hc⟩; have HG := hZ hG; have HZ := hZ (And.intro hz hc); have HH := hZ h; have hcs := h.c; have HV := hZ (xm3 h.sb i hi); have HS : Hid (σ.slots[i].nd.held + by_ = σ.slots[i].nd.held + by_) := hZ rfl; have HC : Hid (σ.call i hi by_ = σ.put i ⟨{ σ.slots[i].nd with held := σ.slots[i].nd.held + by_ }, σ.slots[i].count, σ.slots[i].val⟩) := hZ rfl; clear hG hz hc h; have HL := Loc.start w; obtain ⟨w0, rfl⟩ := eW w; go_enter Tryz.func189, Tryz.ntmps189; go_upto_region 0 with fail; refine X4p ?_; intro K hK; (with_reducible refine (xgv (HH.out.sw.below HL.below) z _ _ true HG.out).mono ?_); rintro e w ⟨rfl, hb'⟩; replace HL := HL.next hb'; clear hb'; refine X5c ?_; clear hK K; refine X4m ?_; clear HL; intro g6 w HL; go_upto_region 1 with fail; refine X14 ?_; refine X10 ?_; go_upto_region 2 with fail
  refine Xv ?_; refine X4u ?_; refine X4v ?_; refine X17 ?_; refine xaa rfl _ (xbr _ _ rfl _ _ _ rfl rfl HS.out (by omega)) ?_; refine X5 ?_; refine X4u ?_; refine X5 ?_; refine xaw sc3 rfl _ _ rfl HL 0 _ _ _ _ _ _ rfl rfl rfl rfl (by rw [Nd.len]; decide) (Nd.s_held _ _) ?_; refine X3j ?_; clear HL; intro w HL; have hB : Below w0.heap.size w0 w := HL.below; refine X5d ?_; intro hgs; have hg6 : ¬ Old w0 g6 := (HL.own _ (.head _)).1; refine X5e ?_; intro HX; clear HL; have HL := HX; clear HX; go_upto_region 3 with fail; refine X5f ?_; refine X3b ?_; intro HL; refine X5g ?_; refine X5 ?_; refine X5h ?_; refine X3d ?_; refine X3p ?_; refine Xk ?_; intro K hK; refine xad cf232 rfl _ rfl ?_; refine X1z ?_
  (with_reducible refine (sb_set (HH.out.sb.below hB.drew) z i HZ.out.1 hi HZ.out.2 { σ.slots[i].nd with held := σ.slots[i].nd.held + by_ } σ.slots[i].val (HV.out.below hB.drew)).mono ?_); rintro e w ⟨rfl, hsb, hf⟩
  replace HL := HL.frame hf (fun k hk hd => hd.2 hk) (by
    intro y hy e; simp at hy; subst hy
    exact hg6 (HH.out.sb.lt _ (HH.out.sb.own _ e)))
  refine X5i ?_; clear hK K; refine Xd ?_; go_wp2_with fail
  go_end0
  have hf0 : Fr (SbS g vs vf) w0 w := (Fr.of_below hB.drew).trans hf; rw [HC.out]; exact ⟨rfl, ⟨HH.out.blk.fr hf0 HH.out.sbs, HH.out.own, hsb⟩, hf0⟩
end
section
variable {D : Nat → Prop} {w w' : World} {gs g : Nat} {σ : Sb} {vs vf : Sv}
def Sb.hold (σ : Sb) (i : Nat) (hi : i < σ.slots.length) : Sb := σ.put i ⟨{ σ.slots[i].nd with held := σ.slots[i].nd.held + 1 }, σ.slots[i].count + 1, σ.slots[i].val⟩
theorem xsd (σ : Sb) (i : Nat) (e : En) : (σ.put i e).slots.length = σ.slots.length := by simp [Sb.put]
theorem put_get (σ : Sb) (i : Nat) (e : En) (hi : i < σ.slots.length) : (σ.put i e).slots[i]'(by rw [xsd]; exact hi) = e := by simp [Sb.put]
theorem put_put (σ : Sb) (i : Nat) (e f : En) : (σ.put i e).put i f = σ.put i f := by simp [Sb.put]
theorem st_hold (h : StP D w gs g σ vs vf) (z : Int) (i : Nat) (hz : z = (i : Int) + 1) (hi : i < σ.slots.length) (hc : 0 < σ.slots[i].count) (hmax : σ.slots[i].count < 1073741824) (hb : -4611686018427387904 ≤ σ.slots[i].nd.held ∧ σ.slots[i].nd.held ≤ 4611686018427387900) :
    Calls Tryz.prog 129 #[.pointer (some ⟨gs, 0, none⟩), .int .i64 z] w fun e w' => e = .returned (.int .i64 0) ∧ StP D w' gs g (σ.hold i hi) vs vf ∧ Fr (SbS g vs vf) w w' := by
  have HH := hZ h; have hcs := h.c; have HZ := hZ hz
  have C : ∀ u u' : World, Hid (SbP D u' g (σ.put i ⟨σ.slots[i].nd, σ.slots[i].count + 1, σ.slots[i].val⟩) vs vf → Fr (SbS g vs vf) u u' → StP D u gs g σ vs vf → Calls Tryz.prog 189 #[.pointer (some ⟨gs, 0, none⟩), .int .i64 z, .int .i64 1] u' fun e w' => e = .returned (.tuple #[]) ∧ StP D w' gs g (σ.hold i hi) vs vf ∧ Fr (SbS g vs vf) u' w') := fun u u' => hZ (fun hs hf hu => by
    have hu' : StP D u' gs g (σ.put i ⟨σ.slots[i].nd, σ.slots[i].count + 1, σ.slots[i].val⟩) vs vf := ⟨hu.blk.fr hf hu.sbs, hu.own, hs⟩; have hi' : i < (σ.put i ⟨σ.slots[i].nd, σ.slots[i].count + 1, σ.slots[i].val⟩).slots.length := by rw [xsd]; exact hi
    have hg := put_get σ i ⟨σ.slots[i].nd, σ.slots[i].count + 1, σ.slots[i].val⟩ hi; have h1 := xfi hu' z 1 i hz hi' (by rw [hg]; show σ.slots[i].count + 1 ≠ 0; omega) (by rw [hg]; show -4611686018427387904 ≤ σ.slots[i].nd.held + 1 ∧ σ.slots[i].nd.held + 1 ≤ 4611686018427387904; omega)
    have e : (σ.put i ⟨σ.slots[i].nd, σ.slots[i].count + 1, σ.slots[i].val⟩).call i hi' 1 = σ.hold i hi := by
      unfold Sb.call Sb.hold; rw [hg, put_put]
    rw [e] at h1
    exact h1)
  clear h hz; have HL := Loc.start w; obtain ⟨w0, rfl⟩ := eW w; go_enter Tryz.func129, Tryz.ntmps129; go_upto_region 0 with fail; refine X1k ?_; go_upto_region 1 with fail; refine X47 ?_; intro K hK; (with_reducible refine (xeq HH.out.sw).mono ?_); rintro e w ⟨rfl, rfl⟩; refine X23 ?_; clear hK K; go_upto_region 3 with fail; refine X16 ?_; refine X48 ?_; refine X5 ?_; refine X49 ?_; refine X4a ?_; intro K hK; refine xad cf188 rfl _ rfl ?_; refine X1z ?_; (with_reducible refine (sb_hold HH.out.sb z i HZ.out hi hc hmax).mono ?_); rintro e w ⟨rfl, hs1, hf1⟩; clear HL; refine X2q ?_; clear hK K; go_upto_region 4 with fail; refine X2r ?_; obtain ⟨w1, rfl⟩ := eW w; go_upto_region 6 with fail; refine X2n ?_; intro K hK; refine X5j ?_; (with_reducible refine ((C _ _).out hs1 hf1 HH.out).mono ?_); rintro e w ⟨rfl, hs2, hf2⟩; refine X23 ?_; clear hK K; go_upto_region 7 with fail
  refine X1k ?_; go_wp2_with fail; go_ret; exact ⟨rfl, hs2, hf1.trans hf2⟩
theorem fit_yes (n : Nd) (d b : Nat) (hd : d < 256) (hb : (tb n.key.l d).toNat = b) (hk : n.kind = 2 → n.depth = (d : Int) + 1) :
    Calls Tryz.prog 250 #[.agg n.cells.toArray, .int .i64 (d : Int), .int .i64 (b : Int)] w fun e w' => e = .returned (.bool true) ∧ Below w.heap.size w w' := by
  have C := fun u => hZ (xf0 u n.key d hd)
  rw [hb] at C; have HL := Loc.start w; clear hb; by_cases h2 : n.kind = 2
  · have hk2 := hk h2
    have k2 : ((n.kind : Int) == 2) = true := by rw [h2]; rfl
    have k3 : (n.depth != (d : Int) + 1) = false := by rw [hk2]; simp
    have hd1 : Hid ((d : Int) + 1 = (d : Int) + 1) := hZ rfl; clear hk hk2 h2; go_enter Tryz.func250, Tryz.ntmps250; go_upto_region 0 with fail; refine X35 ?_; clear HL; intro g3 w HL; refine X1c ?_; go_upto_region 1 with fail; refine Xv ?_; refine X4s ?_; refine X5 ?_; refine X4t ?_; refine X5a ?_; refine xab rfl _ (xaf xmx _ rfl _ rfl) ?_; refine X5b ?_; refine X2a ?_; refine xab rfl _ (xbr _ _ rfl _ _ _ rfl rfl hd1.out (by omega)) ?_; refine X2d ?_; go_upto_region 3 with fail; refine Xv ?_; refine X4z ?_; refine X5 ?_; refine X50 ?_; refine X4a ?_; intro K hK; refine X5m ?_; refine X5n ?_; clear hK K; intro w HL; refine X1u ?_; go_wp2_with fail; go_ret; exact ⟨by first | rfl | simp, HL.below⟩
  · have k2 : ((n.kind : Int) == 2) = false := by simp; omega
    clear hk h2; go_enter Tryz.func250, Tryz.ntmps250; go_upto_region 0 with fail; refine X35 ?_; clear HL; intro g3 w HL; refine X1c ?_; go_upto_region 1 with fail; refine Xv ?_; refine X4s ?_; refine X5 ?_; refine X4t ?_; refine X27 ?_; refine X2h ?_; refine no_implicit_lambda% (X58 ?_); go_upto_region 3 with fail; refine Xv ?_; refine X4z ?_; refine X5 ?_; refine X50 ?_; refine X4a ?_; intro K hK; refine X5m ?_; refine X5n ?_; clear hK K; intro w HL; refine X1u ?_; go_wp2_with fail; go_ret; exact ⟨by first | rfl | simp, HL.below⟩
end
section
variable {D : Nat → Prop} {w w' : World} {gs g : Nat} {σ : Sb} {vs vf : Sv}
structure FitN (n : Nd) (d b : Nat) : Prop where
  bit : (tb n.key.l d).toNat = b
  kind : n.kind = 2 → n.depth = (d : Int) + 1
theorem fit_ok {n : Nd} {d b : Nat} (h : FitN n d b) (hd : d < 256) (w : World) : Calls Tryz.prog 250 #[.agg n.cells.toArray, .int .i64 (d : Int), .int .i64 (b : Int)] w fun e w' => e = .returned (.bool true) ∧ Below w.heap.size w w' := fit_yes n d b hd h.bit h.kind
theorem fit_ok0 {n : Nd} {d : Nat} (h : FitN n d 0) (hd : d < 256) (w : World) : Calls Tryz.prog 250 #[.agg n.cells.toArray, .int .i64 (d : Int), .int .i64 0] w fun e w' => e = .returned (.bool true) ∧ Below w.heap.size w w' := fit_ok h hd w
theorem fit_ok1 {n : Nd} {d : Nat} (h : FitN n d 1) (hd : d < 256) (w : World) : Calls Tryz.prog 250 #[.agg n.cells.toArray, .int .i64 (d : Int), .int .i64 1] w fun e w' => e = .returned (.bool true) ∧ Below w.heap.size w w' := fit_ok h hd w
theorem xtx (l r : Nd) (d : Nat) (a b : Int) (hd : d < 256) (ha : 1 ≤ a) (hb : 1 ≤ b) (hl : FitN l d 0) (hr : FitN r d 1) (hc : d ≤ comm l.key.l r.key.l) :
    Calls Tryz.prog 242 #[.int .i64 (d : Int), .int .i64 a, .int .i64 b, .agg l.cells.toArray, .agg r.cells.toArray] w fun e w' => e = .returned (.bool true) ∧ Below w.heap.size w w' := by
  have k1 : (a == 0) = false := by simp; omega
  have k2 : (b == 0) = false := by simp; omega
  have k3 : decide (d ≤ comm l.key.l r.key.l) = true := by simpa using hc
  have HLl := hZ hl; have HRr := hZ hr; have HL := Loc.start w; have C := fun u => hZ (xoy u l.key r.key)
  generalize comm l.key.l r.key.l = cm at *; clear hl hr hc; go_enter Tryz.func242, Tryz.ntmps242; go_upto_region 0 with fail; refine Xv ?_; refine xc2 rfl _ rfl HL _ rfl ?_; clear HL; intro g8 w HL; refine X5 ?_; refine xc2 rfl _ rfl HL _ rfl ?_; clear HL; intro g9 w HL; refine X1c ?_; go_upto_region 1 with fail; refine X1m ?_; refine X2g ?_; refine X1u ?_; go_upto_region 3 with fail; refine X14 ?_; refine X1u ?_; go_upto_region 5 with fail; refine X14 ?_; refine X1u ?_; go_upto_region 7 with fail; refine Xv ?_; refine xaa rfl _ (xan xe3 HL _ rfl _ rfl _ _ (.tail _ (.head _)) (Nd.len _)) ?_; refine X4a ?_; intro K hK; refine xad cf250 rfl _ rfl ?_; refine X1z ?_; (with_reducible refine (fit_ok0 HLl.out hd _).mono ?_); rintro e w ⟨rfl, hb'⟩; replace HL := HL.next hb'; clear hb'; refine X21 ?_; clear hK K; refine X17 ?_
  refine xab rfl _ (xan xe3 HL _ rfl _ rfl _ _ (.head _) (Nd.len _)) ?_; refine X2a ?_; refine X5o ?_; intro K hK; refine xad cf250 rfl _ rfl ?_; refine X1z ?_; (with_reducible refine (fit_ok1 HRr.out hd _).mono ?_); rintro e w ⟨rfl, hb'⟩; replace HL := HL.next hb'; clear hb'; refine X21 ?_; clear hK K; refine X5a ?_; refine xab rfl _ (xaf xmy _ rfl _ rfl) ?_; refine X5 ?_; refine xab rfl _ (xau ag24 HL _ rfl _ _ rfl _ _ _ (.tail _ (.head _)) (Nd.g_key _) (D32.cl _)) ?_; refine X5 ?_; refine xab rfl _ (xaf xmy _ rfl _ rfl) ?_; refine X5 ?_; refine xab rfl _ (xau ag24 HL _ rfl _ _ rfl _ _ _ (.head _) (Nd.g_key _) (D32.cl _)) ?_; refine X5p ?_; intro K hK; refine xad cf147 rfl _ rfl ?_; refine X1z ?_; refine X5l ?_; rintro e w ⟨rfl, hb'⟩; replace HL := HL.next hb'; clear hb'
  refine X5q ?_; clear hK K; refine X1n ?_; refine X1s ?_; refine X1v ?_; go_wp2_with fail; go_ret; exact ⟨rfl, HL.below⟩
end
abbrev xc7 (key : D32) (val : List UInt8) (x : Sv) : Nd := ⟨tagL key (tagV val), 1, -1, key, x, tagV val, 0, 0, 1, 1⟩
theorem own_sv {w : World} {base : Nat} {v : Value} {l : List UInt8} (h : OwnB w base 5 v l) : ∃ x : Sv, v = x.v ∧ l.length = x.n ∧ x.n ≤ x.c ∧ x.c ≤ maxLen ∧ Rd w x.A (bvs l) ∧ ∀ ad, x.A = some ad → base ≤ ad.block ∧ ad.block < w.heap.size := by
  obtain ⟨A, c, e, h1, h2, h3⟩ := h.rd; rcases h with ⟨rfl, rfl⟩ | ⟨g, sp, rfl, hg, hm, hb⟩
  · exact ⟨⟨none, 0, 0⟩, rfl, rfl, Nat.le_refl _, Nat.zero_le _, Rd.nil _ _, fun ad e => by cases e⟩
  · simp only [Value.slice.injEq] at e
    obtain ⟨rfl, _, rfl⟩ := e; exact ⟨⟨_, _, _⟩, rfl, rfl, h1, h2, h3, fun ad e => by cases e; exact ⟨hg, hb.lt⟩⟩
section
variable {D : Nat → Prop} {w w' : World} {gs g : Nat} {σ : Sb} {vs vf : Sv}
def Dx (D : Nat → Prop) (x : Sv) : Nat → Prop := fun k => D k ∨ ∃ ad, x.A = some ad ∧ ad.block = k
def Took (D : Nat → Prop) (w : World) (gs g : Nat) (σ : Sb) (E : Sv → En) (e : Ending) (w' : World) : Prop :=
  ∃ D' vs' vf' x, e = .returned (.tuple #[.int .i64 (σ.next : Int), .int .i64 0]) ∧ StP D' w' gs g (σ.take (E x)) vs' vf' ∧ Stp D w D' w'
theorem xse (h : StP D w gs g σ vs vf) (key : D32) (A : Option Addr) (n c : Nat) (val : List UInt8) (hr : Rd w A (bvs val)) (hl : val.length = n) (hcap : n ≤ c) (hmax : c ≤ maxLen) (hn : n ≤ 1024) (hroom : σ.used < σ.room) :
    Calls Tryz.prog 146 #[.pointer (some ⟨gs, 0, none⟩), key.a, .slice A n c] w (Took D w gs g σ fun x => ⟨xc7 key val x, 1, val⟩) := by
  have HH := hZ h; have hcs := h.c; have hl' := hZ hl; have k1 : decide (1024 < n) = false := by simpa using hn
  clear hl h; have HL := Loc.start w; obtain ⟨w0, rfl⟩ := eW w; go_enter Tryz.func146, Tryz.ntmps146; go_upto_region 0 with fail; refine X5s ?_; clear HL; intro g4 w HL; refine X1j ?_; go_upto_region 1 with fail; refine X47 ?_; intro K hK; refine X5t ?_; rintro e w ⟨rfl, rfl⟩; refine X23 ?_; clear hK K; go_upto_region 3 with fail; refine X5v ?_; refine X2c ?_; go_upto_region 5 with fail; refine X1y ?_; intro K hK; refine X5w ?_; (with_reducible refine (xhl _ A n c val (HL.rdO hr) hl'.out hcap hmax (by omega)).mono ?_); refine X5x ?_; clear hK K; intro w HL; refine xah zr23 rfl rfl HL ?_; clear HL; intro g8 w HL; refine X60 ?_; clear HL; intro w HL; go_upto_region 6 with fail; refine X14 ?_; refine xb8 bt rfl _ _ rfl w0.heap.size (.slice none 0 0) [] rfl (OwnB.nil _ _ _) A n c val rfl hl'.out (HL.rdO hr) (by simp; omega) HL.fr.size ?_; intro v1 w1 ho1 hg1 _
  rw [List.nil_append] at ho1; obtain ⟨x, rfl, hx1, hx2, hx3, hx4, hx5⟩ := own_sv ho1; replace HL := HL.next ((Below.refl _ _).grown hg1 (Nat.le_refl _) (by intro k hk; cases hk)); clear hg1 ho1; have HX1 := hZ hx1; clear hx1; obtain ⟨w, rfl⟩ : ∃ w, w = w1 := ⟨_, rfl⟩; refine X12 ?_; have hB : Below w0.heap.size w0 w := HL.below; refine X5d ?_; intro hgs; have hg4 : ¬ Old w0 g4 := (HL.own _ (.tail _ (.head _))).1; have hg8 : ¬ Old w0 g8 := (HL.own _ (.head _)).1; have hSO : ∀ k, SbS g vs vf k → Old w0 k := fun k hk => HH.out.sb.lt k (HH.out.sb.own k hk)
  have hVO : ValOk (Dx D x) w g vs vf x val := ⟨⟨HX1.out, hx2, hx3, hx4, fun ad e hk => by have := (hx5 ad e).1; have := hSO _ hk; unfold Old at this; omega⟩, fun ad e => .inr ⟨ad, e, rfl⟩⟩
  have hDx : ∀ k, Dx D x k → k < w.heap.size := by
    rintro k (hk | ⟨ad, e, rfl⟩)
    · exact Nat.lt_of_lt_of_le (HH.out.sb.lt k hk) hB.size
    · exact (hx5 ad e).2
  have hSB : SbP (Dx D x) w g σ vs vf := (HH.out.sb.below hB).more (fun k hk => .inl hk) hDx
  have hnew : ∀ k, Dx D x k → D k ∨ w0.heap.size ≤ k := by
    rintro k (hk | ⟨ad, e, rfl⟩)
    · exact .inl hk
    · exact .inr (hx5 ad e).1
  have HSB := hZ hSB; have HVO := hZ hVO; clear hSB hVO hx4 hx5 hx2 hx3; refine X5e ?_; intro HX; clear HL; have HL := HX; clear HX; have HLE : Hid (xc7 key val x = xc7 key val x) := hZ rfl; obtain ⟨w1, rfl⟩ := eW w; go_upto_region 7 with fail; refine rB (Loc.P HL) [] [6, 12] [0, 1, 2, 3, 4, 5, 8, 9, 10, 6, 7, 11, 12, 13, 14, 15, 16] 0 ?_; refine X3b ?_; intro HL; refine X5g ?_; refine X5 ?_; refine X5h ?_; refine X5 ?_; refine X61 ?_; refine X5 ?_; refine X62 ?_; refine X5 ?_; refine X61 ?_; refine X3d ?_; refine X62 ?_; refine Xk ?_; intro K hK; refine X63 ?_; (with_reducible refine (xm7 _ key (tagV val)).mono ?_); refine X64 ?_; intro w hb HL hB1; clear hb; refine X65 ?_; clear hK K; refine X66 ?_; refine xac rfl rfl HL (fun W hW => xbf bs230 _ rfl _ (by exact bd230_28 _ _ _ _)) ?_; refine Xk ?_; intro K hK; refine xad cf208 rfl _ rfl ?_; refine X1z ?_
  (with_reducible refine (xsb (HSB.out.below hB1) (xc7 key val x) val hroom (HVO.out.below hB1)).mono ?_); rintro e w ⟨D', vs', vf', rfl, hsb, hst, hf⟩
  replace HL := HL.frame hf (fun k hk hd => hd.2 hk) (by
    intro y hy e; simp at hy; rcases hy with rfl | rfl
    · exact hg8 (hSO _ e)
    · exact hg4 (hSO _ e))
  refine X65 ?_; clear hK K; refine X68 ?_; refine X68 ?_; refine X4y ?_; go_wp2_with fail; go_ret2; have hb2 : Blk w gs 256 [.pointer (some ⟨g, 0, none⟩)] := HL.far hgs HH.out.blk; refine ⟨D', vs', vf', x, rfl, ⟨hb2, hst.old _ (.inl HH.out.own), hsb⟩, ?_⟩; have s1 : Stp D w0 (Dx D x) w1 := ⟨hnew, fun k hk => .inl hk, Fr.of_below hB⟩; exact s1.trans ((Stp.of_below hB1).trans hst)
end
end Go.Proofs.YtkjjdgnkelchfaaGreat
