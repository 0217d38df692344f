/- Contracts of octet.Unhex and of the reference's Unhex, digit, Compare. -/
import Derived.Test.YtehbahobkgoapaaHx
import Derived.Lib.QuoteBits
import Derived.Deep.Cut
namespace Go.Proofs.Ytehbahobkgoapaa
open Go Go.RowKit
set_option linter.unusedSimpArgs false
set_option linter.unusedVariables false

def undig (c : UInt8) : Int := Lib.indexByte digL c
theorem index_found : ∀ (l : List UInt8) (c : UInt8) (i : Nat) (h : i < l.length), (∀ j (hj : j < i), l[j] ≠ c) → l[i] = c → Lib.indexByte l c = i
  | [], _, _, h, _, _ => by simp at h
  | x :: l, c, 0, _, _, e => by
    have : x = c := e
    subst this
    simp [Lib.indexByte]
  | x :: l, c, i + 1, h, hn, e => by
    have h0 : x ≠ c := hn 0 (by omega)
    have ih := index_found l c i (by simpa using h) (fun j hj => hn (j + 1) (by omega)) e
    have hb : (x == c) = false := by simpa using h0
    rw [Lib.indexByte, hb, ih]
    have : ((i : Int) == -1) = false := by simp
    rw [this]
    simp
theorem index_none : ∀ (l : List UInt8) (c : UInt8), (∀ j (hj : j < l.length), l[j] ≠ c) → Lib.indexByte l c = -1
  | [], _, _ => rfl
  | x :: l, c, h => by
    have h0 : x ≠ c := h 0 (by simp)
    have ih := index_none l c (fun j hj => h (j + 1) (by simpa using hj))
    have hb : (x == c) = false := by simpa using h0
    rw [Lib.indexByte, hb, ih]
    rfl
theorem undig_bd : ∀ n, n < 256 → -1 ≤ undig (UInt8.ofNat n) ∧ undig (UInt8.ofNat n) ≤ 15 := by decide +kernel
theorem undig_lt (c : UInt8) : -1 ≤ undig c ∧ undig c ≤ 15 := by
  have := undig_bd c.toNat c.toNat_lt
  rwa [UInt8.ofNat_toNat] at this
def unp : List UInt8 → Option (List UInt8)
  | [] => some []
  | [_] => none
  | a :: b :: r => if undig a < 0 ∨ undig b < 0 then none else (unp r).map fun l => UInt8.ofNat (16 * (undig a).toNat + (undig b).toNat) :: l
def upE (o : Option (List UInt8)) : Int := match o with
  | none => 110
  | some _ => 0
def upL (o : Option (List UInt8)) : List UInt8 := match o with
  | none => []
  | some l => l
def unhexL (t : List UInt8) : List UInt8 := if 65536 < t.length ∨ t = [45] ∨ t.length = 0 ∨ t.length % 2 = 1 then [] else upL (unp t)
def unhexE (t : List UInt8) : Int := if 65536 < t.length then 4 else if t = [45] then 0 else if t.length = 0 ∨ t.length % 2 = 1 then 110 else upE (unp t)
theorem bv_nat' (n : Nat) (h : n < 256) : bv (UInt8.ofNat n) = .int .u8 (n : Int) := by
  unfold bv
  rw [UInt8.toNat_ofNat_of_lt' h]
theorem drop_two (t : List UInt8) (j : Nat) (h : j + 1 < t.length) : t.drop j = t[j] :: t[j + 1] :: t.drop (j + 2) := by
  rw [List.drop_eq_getElem_cons (by omega), List.drop_eq_getElem_cons (by omega)]

theorem or_i64_16 (a b : Nat) (ha : a < 16) (hb : b < 16) : bits .or .i64 ((a : Int) * 16) (b : Int) = (((16 * a + b : Nat)) : Int) := by
  show IntKind.i64.wrap ((BitVec.ofInt 64 ((a : Int) * 16) ||| BitVec.ofInt 64 (b : Int)).toNat : Int) = _
  have e : (a : Int) * 16 = ((a * 16 : Nat) : Int) := by omega
  rw [BitVec.toNat_or, e, ofInt_u64 (a * 16) (by omega), ofInt_u64 b (by omega), nat_join 4 _ _ (by omega) (by omega)]
  rw [Lib.wrap_i64_small _ (by omega)]
  omega
theorem exec_index_is {P : Program} {w : World} {o : Oper} {a : Act} {T : TypeId} (hT : P.underlying T = some .string) (x i : Operand) (ho : o.op = .index T x i) (t : List UInt8) (hx : a.eval x = .string ⟨t.toArray⟩) (k : IntKind) (j : Nat) (hi : a.eval i = .int k (j : Int)) (y : UInt8) (h : t[j]? = some y) :
    (execOp a.eval o).run P w = .ok (.value (.int .u8 (y.toNat : Int))) w := by
  obtain ⟨hj, e⟩ := List.getElem?_eq_some_iff.1 h
  rw [exec_index_str hT x i ho t hx k j hi hj, e]
set_option maxRecDepth 100000 in
theorem digit_any (c : UInt8) (w : World) : Calls Try.prog 131 #[.int .u8 (c.toNat : Int)] w fun e w' => e = .returned (.int .i64 (undig c)) ∧ w = w' := by
  have hdl : digL.length = 16 := rfl
  have hc8 : c.toNat < 256 := c.toNat_lt
  have HC : Hid (∀ i (h : i < 16), (digL[i]'(by rw [hdl]; exact h)).toNat = c.toNat → digL[i]'(by rw [hdl]; exact h) = c) := fun i h e => UInt8.toNat_inj.1 e
  go_enter Try.func131, Try.ntmps131
  go_wp2_with fail
  go_loopw [3] (fun i wr => ∃ k : Nat, k ≤ 16 ∧ i = .int .i64 (k : Int) ∧ Hid (∀ j (hj : j < k) (h : j < 16), digL[j]'(by rw [hdl]; exact h) ≠ c) ∧ w = wr) (fun i _ => 16 - (intOf i).toNat)
  case atStart => exact ⟨0, by omega, by go_num, fun j hj => by omega, rfl⟩
  case round =>
    obtain ⟨k, hk, rfl, hn, rfl⟩ := hrel
    by_cases hlt : k < 16
    · obtain ⟨y, hy⟩ : ∃ y, y = (digL[k]'(by rw [hdl]; exact hlt)).toNat := ⟨_, rfl⟩
      have hf := Lib.hid (HC.out k hlt)
      have hfound : Hid (y = c.toNat → undig c = k) := by
        intro e
        refine index_found digL c k (by rw [hdl]; exact hlt) (fun j hj => hn.out j hj (by omega)) (hf.out (by rw [← hy]; exact e))
      have hnext : Hid (y ≠ c.toNat → ∀ j (hj : j < k + 1) (h : j < 16), digL[j]'(by rw [hdl]; exact h) ≠ c) := by
        intro e j hj h
        by_cases hjk : j = k
        · subst hjk
          intro e2
          exact e (by rw [hy, e2])
        · exact hn.out j (by omega) h
      have HY := Lib.hid hy
      clear hy
      go_wp2_with ((with_reducible refine at_dst 9 ?_); refine wpList_yield rfl (.int .u8 (y : Int)) (by rw [HY.out]; exact exec_index_str Try.underlying9 (.const (.string ⟨digL.toArray⟩)) (.tmp 8) rfl digL rfl .i64 k rfl (by rw [hdl]; exact hlt)) ?_)
      · rename_i hh
        have h9 : (y : Int) = (c.toNat : Int) := by simpa using hh
        go_ret
        exact ⟨ret_i (hfound.out (by omega)).symm, rfl⟩
      · rename_i hh
        have h9 : ¬ (y : Int) = (c.toNat : Int) := by simpa using hh
        go_roundw
        case rel => exact ⟨k + 1, by omega, by go_num, hnext.out (by omega), by first | rfl | trivial⟩
        case measure => simp only [intOf]; omega
    · obtain rfl : k = 16 := by omega
      have e : Hid (undig c = -1) := index_none digL c (fun j hj => hn.out j (by rw [hdl] at hj; exact hj) (by rw [hdl] at hj; exact hj))
      go_wp2_with fail
      go_ret
      exact ⟨ret_i e.out.symm, rfl⟩

theorem index_dig (a : UInt8) (w : World) : Calls Try.prog 130 #[.string ⟨digL.toArray⟩, .int .u8 (a.toNat : Int)] w fun e w' => e = .returned (.int .i64 (undig a)) ∧ w' = w := by
  have h := strings_index ⟨digL.toArray⟩ (a.toNat : Int) w
  have e : Lib.indexByte (⟨digL.toArray⟩ : ByteArray).data.toList (a.toNat : Int).toNat.toUInt8 = undig a := by
    unfold undig
    rw [Int.toNat_natCast]
    congr 1
    exact UInt8.ofNat_toNat
  rw [e] at h
  exact h
set_option maxRecDepth 100000 in
set_option maxHeartbeats 1000000 in
theorem unhex_any (t : List UInt8) (w : World) (ht : t.length ≤ 9223372036854775807) :
    Calls Try.prog 58 #[.string ⟨t.toArray⟩] w fun e w' => ∃ v, e = .returned (.tuple #[v, .int .i64 (unhexE t)]) ∧ OwnB w' w.heap.size 5 v (unhexL t) ∧ Below w.heap.size w w' := by
  obtain ⟨n, hn⟩ : ∃ n, n = t.length := ⟨_, rfl⟩
  have hsz : (⟨t.toArray⟩ : ByteArray).size = n := by rw [hn]; rfl
  by_cases h1 : 65536 < n
  · have e1 : unhexE t = 4 := by unfold unhexE; rw [if_pos (by omega)]
    have e2 : unhexL t = [] := by unfold unhexL; rw [if_pos (by omega)]
    rw [e1, e2]
    clear hn
    go_enter Try.func58, Try.ntmps58
    go_wp2
    go_ret2
    exact ⟨_, rfl, OwnB.nil _ _ _, Below.refl _ _⟩
  by_cases h2 : t = [45]
  · subst h2
    have e1 : unhexE [45] = 0 := rfl
    have e2 : unhexL [45] = [] := rfl
    rw [e1, e2]
    clear hn hsz
    go_enter Try.func58, Try.ntmps58
    go_wp2
    go_ret2
    exact ⟨_, rfl, OwnB.nil _ _ _, Below.refl _ _⟩
  have hbe : (t == [45]) = false := by simpa using h2
  by_cases h3 : n = 0
  · have e1 : unhexE t = 110 := by unfold unhexE; rw [if_neg (by omega), if_neg h2, if_pos (by omega)]
    have e2 : unhexL t = [] := by unfold unhexL; rw [if_pos (by omega)]
    rw [e1, e2]
    subst h3
    clear hn h2
    go_enter Try.func58, Try.ntmps58
    go_wp2
    go_ret2
    exact ⟨_, rfl, OwnB.nil _ _ _, Below.refl _ _⟩
  have hb0 : ((n : Int) == 0) = false := by simpa using h3
  by_cases h4 : n % 2 = 1
  · have e1 : unhexE t = 110 := by unfold unhexE; rw [if_neg (by omega), if_neg h2, if_pos (by omega)]
    have e2 : unhexL t = [] := by unfold unhexL; rw [if_pos (by omega)]
    rw [e1, e2]
    have hb1 : ((n : Int) % 2 == 1) = true := by simp; omega
    clear hn h2 h3
    go_enter Try.func58, Try.ntmps58
    go_wp2
    go_ret2
    exact ⟨_, rfl, OwnB.nil _ _ _, Below.refl _ _⟩
  have hb1 : ((n : Int) % 2 == 1) = false := by simp; omega
  have e1 : unhexE t = upE (unp t) := by unfold unhexE; rw [if_neg (by omega), if_neg h2, if_neg (by omega)]
  have e2 : unhexL t = upL (unp t) := by
    unfold unhexL
    rw [if_neg (by intro h; rcases h with h | h | h | h <;> first | exact h2 h | omega)]
  rw [e1, e2]
  clear e1 e2 h2
  obtain ⟨m, hm⟩ : ∃ m, n = 2 * m := ⟨n / 2, by omega⟩
  have hdv : (n : Int) / 2 = (m : Int) := by omega
  have HN := Lib.hid hn
  have hle : (n : Int) ≤ 65536 := by omega
  have hmn : m ≤ n := by omega
  have HM := Lib.hid hm
  clear hm
  clear hn
  go_enter Try.func58, Try.ntmps58
  go_wp2_with ((with_reducible refine at_dst 28 ?_); refine wpList_make_bytes bt rfl _ _ rfl .i64 .i64 0 m rfl rfl (Nat.zero_le _) (by omega) ?_; intro w1 hb2 hw1 hs1)
  have ho0 : OwnB w1 w.heap.size 5 (.slice (some ⟨w.heap.size, 0, none⟩) 0 m) [] := .inr ⟨w.heap.size, List.replicate m 0, by simp, Nat.le_refl _, by unfold maxLen; simp; omega, by simpa using hb2⟩
  clear hb2
  go_loopw [4, 5] (fun out i wr => ∃ (k : Nat) (o : List UInt8), k ≤ m ∧ i = .int .i64 (2 * (k : Int)) ∧ o.length = k ∧ OwnB wr w.heap.size 5 out o ∧ Below w.heap.size w wr ∧ Hid (unp t = (unp (t.drop (2 * k))).map (o ++ ·))) (fun _ i _ => 2 * m - (intOf i).toNat)
  case atStart => exact ⟨0, [], by omega, by go_num, rfl, ho0, hw1, by show _ = _; simp⟩
  case round =>
    obtain ⟨k, o, hk, rfl, hol, ho, hw, hu⟩ := hrel
    obtain ⟨wq, rfl⟩ : ∃ wq : World, wq = wr := ⟨_, rfl⟩
    obtain ⟨j, hj⟩ : ∃ j, j = 2 * k := ⟨_, rfl⟩
    have hji : 2 * (k : Int) = (j : Int) := by omega
    rw [hji]
    by_cases hlt : k < m
    · have hjl : j + 1 < t.length := by rw [← HN.out, HM.out]; omega
      have hd2 := drop_two t j hjl
      rw [← hj, hd2] at hu
      have hj0 : j < t.length := by omega
      obtain ⟨a, ha⟩ : ∃ a, a = t[j]'hj0 := ⟨_, rfl⟩
      obtain ⟨b, hb⟩ : ∃ b, b = t[j + 1]'hjl := ⟨_, rfl⟩
      rw [← ha, ← hb] at hu
      have HA : Hid (t[j]? = some a) := by show _ = _; rw [ha]; exact List.getElem?_eq_getElem hj0
      have HB : Hid (t[j + 1]? = some b) := by show _ = _; rw [hb]; exact List.getElem?_eq_getElem hjl
      clear ha hb
      obtain ⟨j1, hj1⟩ : ∃ j1, j1 = j + 1 := ⟨_, rfl⟩
      have HJ1 := Lib.hid hj1
      have kj : IntKind.i64.wrap ((j : Int) + 1) = (j1 : Int) := by rw [IntWalk.i64_in _ (by omega)]; omega
      have hjn : (j : Int) < (n : Int) := by have := HM.out; omega
      have HJ := Lib.hid hj
      clear hj hj1 hji
      have hab := undig_lt a
      have hbb := undig_lt b
      have C1 := Lib.hid (fun W => index_dig a W)
      have C2 := Lib.hid (fun W => index_dig b W)
      have HU : Hid (unp t = (if undig a < 0 ∨ undig b < 0 then none else (unp (t.drop (j + 2))).map fun l => o ++ (UInt8.ofNat (16 * (undig a).toNat + (undig b).toNat) :: l))) := by
        show _ = _
        rw [hu.out, unp]
        split
        · rfl
        · simp [Function.comp_def]
      clear hu hd2
      generalize undig a = da at *
      generalize undig b = db at *
      go_wp2_with fail
      refine rg_begin (fun W => W = wq.drew) [] [3, 8] [0, 1, 2, 4, 5, 6, 7, 3, 8, 9, 10] 0 mixed (by kernel_rfl) (fun _ _ _ _ e hh => ⟨e.symm.trans hh.1, hh.2⟩) ?_
      simp only [pick, List.map_cons, List.map_nil, List.getD_cons_zero, List.getD_cons_succ]
      have hS : (fun W => W = wq.drew) _ := rfl
      refine rg_take (v := ?v1_0) rfl rfl hS ?y1_0 ?_
      case y1_0 => intro W hW; (try subst hW); go_simp; try with_reducible rfl
      simp only [Act.put, List.setIfInBounds_toArray, List.set_cons_zero, List.set_cons_succ]
      refine rg_take (v := ?v1_1) rfl rfl hS ?y1_1 ?_
      case y1_1 => intro W hW; (try subst hW); go_simp; try with_reducible rfl
      simp only [Act.put, List.setIfInBounds_toArray, List.set_cons_zero, List.set_cons_succ]
      refine rg_take rfl rfl hS (fun W hW => exec_index_is Try.underlying9 (.tmp 35) (.tmp 36) rfl t rfl .i64 j rfl a HA.out) ?_
      simp only [Act.put, List.setIfInBounds_toArray, List.set_cons_zero, List.set_cons_succ]
      refine rg_take (v := ?v1_4) rfl rfl hS ?y1_4 ?_
      case y1_4 => intro W hW; (try subst hW); go_simp; try with_reducible rfl
      simp only [Act.put, List.setIfInBounds_toArray, List.set_cons_zero, List.set_cons_succ]
      refine rg_take (v := ?v1_5) rfl rfl hS ?y1_5 ?_
      case y1_5 => intro W hW; (try subst hW); go_simp; try with_reducible rfl
      simp only [Act.put, List.setIfInBounds_toArray, List.set_cons_zero, List.set_cons_succ]
      refine rg_take (v := ?v1_6) rfl rfl hS ?y1_6 ?_
      case y1_6 => intro W hW; (try subst hW); go_simp; try with_reducible rfl
      simp only [Act.put, List.setIfInBounds_toArray, List.set_cons_zero, List.set_cons_succ]
      refine rg_take rfl rfl hS (fun W hW => exec_index_is Try.underlying9 (.tmp 39) (.tmp 41) rfl t rfl .i64 j1 rfl b (by rw [HJ1.out]; exact HB.out)) ?_
      simp only [Act.put, List.setIfInBounds_toArray, List.set_cons_zero, List.set_cons_succ]
      refine rg_one rfl rfl ?_; intro K hK; go_simp
      refine (C1.out _).mono ?_
      rintro e w2 ⟨rfl, rfl⟩
      refine hK _ _ (fun _ => hS) ?_; clear hK
      refine rg_one rfl rfl ?_; intro K hK; go_simp
      refine (C2.out _).mono ?_
      rintro e w2 ⟨rfl, rfl⟩
      refine hK _ _ (fun _ => hS) ?_; clear hK
      refine rg_take (v := ?v1_9) rfl rfl hS ?y1_9 ?_
      case y1_9 => intro W hW; (try subst hW); go_simp; try with_reducible rfl
      simp only [Act.put, List.setIfInBounds_toArray, List.set_cons_zero, List.set_cons_succ]
      refine rg_take (v := ?v1_10) rfl rfl hS ?y1_10 ?_
      case y1_10 => intro W hW; (try subst hW); go_simp; try with_reducible rfl
      simp only [Act.put, List.setIfInBounds_toArray, List.set_cons_zero, List.set_cons_succ]
      refine rg_done (by kernel_rfl) ?_
      by_cases hbad : da < 0 ∨ db < 0
      · have hnone : Hid (unp t = none) := by show _ = _; rw [HU.out, if_pos hbad]
        clear HU
        by_cases hd : da < 0
        · go_wp2_with fail
          go_ret2
          exact ⟨_, by rw [hnone.out]; rfl, by rw [hnone.out]; exact OwnB.nil _ _ _, hw.drew⟩
        · have hdb : db < 0 := by omega
          clear hbad
          go_wp2_with fail
          go_ret2
          exact ⟨_, by rw [hnone.out]; rfl, by rw [hnone.out]; exact OwnB.nil _ _ _, hw.drew⟩
      · have HU1 : Hid (unp t = (unp (t.drop (j + 2))).map fun l => o ++ (UInt8.ofNat (16 * da.toNat + db.toNat) :: l)) := by show _ = _; rw [HU.out, if_neg hbad]
        clear HU
        obtain ⟨x, rfl⟩ := Int.eq_ofNat_of_zero_le (show 0 ≤ da by omega)
        obtain ⟨y, rfl⟩ := Int.eq_ofNat_of_zero_le (show 0 ≤ db by omega)
        have hor := or_i64_16 x y (by omega) (by omega)
        obtain ⟨z, hz⟩ : ∃ z, z = 16 * x + y := ⟨_, rfl⟩
        have hz8 : z < 256 := by omega
        rw [Int.toNat_natCast, Int.toNat_natCast, ← hz] at HU1
        rw [← hz] at hor
        have hwz : IntKind.u8.wrap (z : Int) = (z : Int) := by rw [IntKind.wrap_u8]; omega
        have hnb : ¬ ((x : Int) < 0) := by omega
        have hnb2 : ¬ ((y : Int) < 0) := by omega
        clear hz hbad
        have hol8 : o.length ≤ 65536 := by omega
        have HOL := Lib.hid hol
        go_wp2_with (
          (with_reducible refine at_dst 57 ?_)
          have hz1 : Value.int .u8 (z : Int) = bv (UInt8.ofNat z) := (bv_nat' z hz8).symm
          have ho1 : OwnB (wq.drew.alloc (.cells #[.int .u8 (z : Int)] 5)) w.heap.size 5 u4 o := ho.below ((Below.refl wq.heap.size wq).drew.alloc (by simp) _) (Nat.le_refl _)
          have hy : Rd (wq.drew.alloc (.cells #[.int .u8 (z : Int)] 5)) (some ⟨wq.heap.size, 0, none⟩) (bvs [UInt8.ofNat z]) := Rd.of_blk0 (es := []) (by rw [hz1]; simpa [bvs] using Blk.new wq.drew 5 [bv (UInt8.ofNat z)])
          have hS1 : Below w.heap.size w (wq.drew.alloc (.cells #[.int .u8 (z : Int)] 5)) := hw.drew.alloc hw.size _
          refine wpList_append_bytes bt rfl (.tmp 50) (.tmp 56) rfl w.heap.size u4 o rfl ho1 (some ⟨wq.heap.size, 0, none⟩) 1 1 [UInt8.ofNat z] rfl rfl hy (by omega) hS1.size ?_
          intro v2 w2 ho2 hg2 _
          have hS2 : Below w.heap.size w w2 := hS1.grown hg2 hS1.size (fun g hg => (ho1.lt g hg).1))
        go_roundw
        case rel =>
          refine ⟨k + 1, o ++ [UInt8.ofNat z], by omega, ?_, by simp [HOL.out], ho2, hS2, ?_⟩
          · congr 1; have := HJ.out; omega
          · show _ = _
            rw [HU1.out, HJ.out, show 2 * k + 2 = 2 * (k + 1) by omega]
            simp [Function.comp_def]
        case measure => simp only [intOf]; have := HJ.out; omega
    · obtain rfl : k = m := by omega
      have hend : t.drop (2 * k) = [] := List.drop_eq_nil_of_le (by have := HN.out; have := HM.out; omega)
      have hsome : Hid (unp t = some o) := by show _ = _; rw [hu.out, hend]; simp [unp]
      have hjn : (j : Int) = (n : Int) := by have := HM.out; omega
      clear hend hu hj
      rw [hjn]
      go_wp2_with fail
      go_ret2
      exact ⟨_, by rw [hsome.out]; rfl, by rw [hsome.out]; exact ho, hw⟩

set_option maxRecDepth 100000 in
set_option maxHeartbeats 1000000 in
theorem runhex_any (t : List UInt8) (w : World) (ht : t.length ≤ 9223372036854775807) :
    Calls Try.prog 59 #[.string ⟨t.toArray⟩] w fun e w' => ∃ v, e = .returned (.tuple #[v, .int .i64 (unhexE t)]) ∧ OwnB w' w.heap.size 5 v (unhexL t) ∧ Below w.heap.size w w' := by
  obtain ⟨n, hn⟩ : ∃ n, n = t.length := ⟨_, rfl⟩
  have hsz : (⟨t.toArray⟩ : ByteArray).size = n := by rw [hn]; rfl
  by_cases h1 : 65536 < n
  · have e1 : unhexE t = 4 := by unfold unhexE; rw [if_pos (by omega)]
    have e2 : unhexL t = [] := by unfold unhexL; rw [if_pos (by omega)]
    rw [e1, e2]
    clear hn
    go_enter Try.func59, Try.ntmps59
    go_wp2
    go_ret2
    exact ⟨_, rfl, OwnB.nil _ _ _, Below.refl _ _⟩
  by_cases h2 : t = [45]
  · subst h2
    have e1 : unhexE [45] = 0 := rfl
    have e2 : unhexL [45] = [] := rfl
    rw [e1, e2]
    clear hn hsz
    go_enter Try.func59, Try.ntmps59
    go_wp2
    go_ret2
    exact ⟨_, rfl, OwnB.nil _ _ _, Below.refl _ _⟩
  have hbe : (t == [45]) = false := by simpa using h2
  by_cases h3 : n = 0
  · have e1 : unhexE t = 110 := by unfold unhexE; rw [if_neg (by omega), if_neg h2, if_pos (by omega)]
    have e2 : unhexL t = [] := by unfold unhexL; rw [if_pos (by omega)]
    rw [e1, e2]
    subst h3
    clear hn h2
    go_enter Try.func59, Try.ntmps59
    go_wp2
    go_ret2
    exact ⟨_, rfl, OwnB.nil _ _ _, Below.refl _ _⟩
  have hb0 : ((n : Int) == 0) = false := by simpa using h3
  by_cases h4 : n % 2 = 1
  · have e1 : unhexE t = 110 := by unfold unhexE; rw [if_neg (by omega), if_neg h2, if_pos (by omega)]
    have e2 : unhexL t = [] := by unfold unhexL; rw [if_pos (by omega)]
    rw [e1, e2]
    have hb1 : ((n : Int) % 2 != 0) = true := by simp; omega
    clear hn h2 h3
    go_enter Try.func59, Try.ntmps59
    go_wp2
    go_ret2
    exact ⟨_, rfl, OwnB.nil _ _ _, Below.refl _ _⟩
  have hb1 : ((n : Int) % 2 != 0) = false := by simp; omega
  have e1 : unhexE t = upE (unp t) := by unfold unhexE; rw [if_neg (by omega), if_neg h2, if_neg (by omega)]
  have e2 : unhexL t = upL (unp t) := by
    unfold unhexL
    rw [if_neg (by intro h; rcases h with h | h | h | h <;> first | exact h2 h | omega)]
  rw [e1, e2]
  clear e1 e2 h2
  obtain ⟨m, hm⟩ : ∃ m, n = 2 * m := ⟨n / 2, by omega⟩
  have HN := Lib.hid hn
  have hle : (n : Int) ≤ 65536 := by omega
  have hmn : m ≤ n := by omega
  have HM := Lib.hid hm
  clear hn hm
  go_enter Try.func59, Try.ntmps59
  go_wp2_with fail
  go_loopw [4, 5] (fun out i wr => ∃ (k : Nat) (o : List UInt8), k ≤ m ∧ i = .int .i64 (2 * (k : Int)) ∧ o.length = k ∧ OwnB wr w.heap.size 5 out o ∧ Below w.heap.size w wr ∧ Hid (unp t = (unp (t.drop (2 * k))).map (o ++ ·))) (fun _ i _ => 2 * m - (intOf i).toNat)
  case atStart => exact ⟨0, [], by omega, by go_num, rfl, OwnB.nil _ _ _, Below.refl _ _, by show _ = _; simp⟩
  case round =>
    obtain ⟨k, o, hk, rfl, hol, ho, hw, hu⟩ := hrel
    obtain ⟨wq, rfl⟩ : ∃ wq : World, wq = wr := ⟨_, rfl⟩
    obtain ⟨j, hj⟩ : ∃ j, j = 2 * k := ⟨_, rfl⟩
    have hji : 2 * (k : Int) = (j : Int) := by omega
    rw [hji]
    by_cases hlt : k < m
    · have hjl : j + 1 < t.length := by rw [← HN.out, HM.out]; omega
      have hd2 := drop_two t j hjl
      rw [← hj, hd2] at hu
      have hj0 : j < t.length := by omega
      obtain ⟨a, ha⟩ : ∃ a, a = t[j]'hj0 := ⟨_, rfl⟩
      obtain ⟨b, hb⟩ : ∃ b, b = t[j + 1]'hjl := ⟨_, rfl⟩
      rw [← ha, ← hb] at hu
      have HA : Hid (t[j]? = some a) := by show _ = _; rw [ha]; exact List.getElem?_eq_getElem hj0
      have HB : Hid (t[j + 1]? = some b) := by show _ = _; rw [hb]; exact List.getElem?_eq_getElem hjl
      clear ha hb
      obtain ⟨j1, hj1⟩ : ∃ j1, j1 = j + 1 := ⟨_, rfl⟩
      have HJ1 := Lib.hid hj1
      have kj : IntKind.i64.wrap ((j : Int) + 1) = (j1 : Int) := by rw [IntWalk.i64_in _ (by omega)]; omega
      have kj' : (j : Int) + 1 = (j1 : Int) := by omega
      have hjn : (j : Int) < (n : Int) := by have := HM.out; omega
      have HJ := Lib.hid hj
      clear hj hj1 hji
      have hab := undig_lt a
      have hbb := undig_lt b
      have C1 := Lib.hid (fun W => digit_any a W)
      have C2 := Lib.hid (fun W => digit_any b W)
      have HU : Hid (unp t = (if undig a < 0 ∨ undig b < 0 then none else (unp (t.drop (j + 2))).map fun l => o ++ (UInt8.ofNat (16 * (undig a).toNat + (undig b).toNat) :: l))) := by
        show _ = _
        rw [hu.out, unp]
        split
        · rfl
        · simp [Function.comp_def]
      clear hu hd2
      generalize undig a = da at *
      generalize undig b = db at *
      go_upto_region 13 with (first
        | ((with_reducible refine at_dst 30 ?_); refine wpList_yield rfl _ (exec_index_is Try.underlying9 (.tmp 28) (.tmp 29) rfl t rfl .i64 j rfl a HA.out) ?_)
        | ((with_reducible refine at_dst 35 ?_); refine wpList_yield rfl _ (exec_index_is Try.underlying9 (.tmp 32) (.tmp 34) rfl t rfl .i64 j1 rfl b (by rw [HJ1.out]; exact HB.out)) ?_)
        | (go_at_call 131
           first
            | (with_reducible refine (C1.out _).mono ?_)
            | (with_reducible refine (C2.out _).mono ?_)
           rintro e w2 ⟨rfl, rfl⟩))
      by_cases hbad : da < 0 ∨ db < 0
      · have hnone : Hid (unp t = none) := by show _ = _; rw [HU.out, if_pos hbad]
        clear HU
        by_cases hd : da < 0
        · go_wp2_with fail
          go_ret2
          exact ⟨_, by rw [hnone.out]; rfl, by rw [hnone.out]; exact OwnB.nil _ _ _, hw⟩
        · have hdb : db < 0 := by omega
          clear hbad
          go_wp2_with fail
          go_ret2
          exact ⟨_, by rw [hnone.out]; rfl, by rw [hnone.out]; exact OwnB.nil _ _ _, hw⟩
      · have HU1 : Hid (unp t = (unp (t.drop (j + 2))).map fun l => o ++ (UInt8.ofNat (16 * da.toNat + db.toNat) :: l)) := by show _ = _; rw [HU.out, if_neg hbad]
        clear HU
        obtain ⟨x, rfl⟩ := Int.eq_ofNat_of_zero_le (show 0 ≤ da by omega)
        obtain ⟨y, rfl⟩ := Int.eq_ofNat_of_zero_le (show 0 ≤ db by omega)
        obtain ⟨z, hz⟩ : ∃ z, z = 16 * x + y := ⟨_, rfl⟩
        have hz8 : z < 256 := by omega
        rw [Int.toNat_natCast, Int.toNat_natCast, ← hz] at HU1
        have hzz : 16 * (x : Int) + (y : Int) = (z : Int) := by omega
        have hwz : IntKind.u8.wrap (z : Int) = (z : Int) := by rw [IntKind.wrap_u8]; omega
        have hnb : ¬ ((x : Int) < 0) := by omega
        have hnb2 : ¬ ((y : Int) < 0) := by omega
        clear hz hbad
        have hol8 : o.length ≤ 65536 := by omega
        have HOL := Lib.hid hol
        go_wp2_with (
          (with_reducible refine at_dst 50 ?_)
          have hz1 : Value.int .u8 (z : Int) = bv (UInt8.ofNat z) := (bv_nat' z hz8).symm
          have ho1 : OwnB (wq.alloc (.cells #[.int .u8 (z : Int)] 5)) w.heap.size 5 u4 o := ho.below ((Below.refl wq.heap.size wq).alloc (by simp) _) (Nat.le_refl _)
          have hy : Rd (wq.alloc (.cells #[.int .u8 (z : Int)] 5)) (some ⟨wq.heap.size, 0, none⟩) (bvs [UInt8.ofNat z]) := Rd.of_blk0 (es := []) (by rw [hz1]; simpa [bvs] using Blk.new wq 5 [bv (UInt8.ofNat z)])
          have hS1 : Below w.heap.size w (wq.alloc (.cells #[.int .u8 (z : Int)] 5)) := hw.alloc hw.size _
          refine wpList_append_bytes bt rfl (.tmp 43) (.tmp 49) rfl w.heap.size u4 o rfl ho1 (some ⟨wq.heap.size, 0, none⟩) 1 1 [UInt8.ofNat z] rfl rfl hy (by omega) hS1.size ?_
          intro v2 w2 ho2 hg2 _
          have hS2 : Below w.heap.size w w2 := hS1.grown hg2 hS1.size (fun g hg => (ho1.lt g hg).1))
        go_roundw
        case rel =>
          refine ⟨k + 1, o ++ [UInt8.ofNat z], by omega, ?_, by simp [HOL.out], ho2, hS2, ?_⟩
          · congr 1; have := HJ.out; omega
          · show _ = _
            rw [HU1.out, HJ.out, show 2 * k + 2 = 2 * (k + 1) by omega]
            simp [Function.comp_def]
        case measure => simp only [intOf]; have := HJ.out; omega
    · obtain rfl : k = m := by omega
      have hend : t.drop (2 * k) = [] := List.drop_eq_nil_of_le (by have := HN.out; have := HM.out; omega)
      have hsome : Hid (unp t = some o) := by show _ = _; rw [hu.out, hend]; simp [unp]
      have hjn : (j : Int) = (n : Int) := by have := HM.out; omega
      clear hend hu hj
      rw [hjn]
      go_wp2_with fail
      go_ret2
      exact ⟨_, by rw [hsome.out]; rfl, by rw [hsome.out]; exact ho, hw⟩
end Go.Proofs.Ytehbahobkgoapaa
