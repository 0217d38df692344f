import Derived.Test.YtkjjdgnkelchfaaGreatPCU6
set_option linter.unusedSimpArgs false
set_option linter.unusedVariables false
set_option maxRecDepth 100000
set_option maxHeartbeats 16000000
namespace Go.Proofs.YtkjjdgnkelchfaaGreat
open Go Go.RowKit
def xnl : Value → Nat
  | .slice _ _ c => c
  | _ => 0
theorem sz24 : (Tryz.prog.info? 25).map (·.size) = some 1 := by kernel_rfl
theorem w24 : ∃ d, Tryz.prog.underlying 25 = some d ∧ d.isRow = false := ⟨_, Tryz.underlying25, rfl⟩
theorem xnm {w : World} {a : Act} {o : Oper} (x : Operand) (ho : o.op = .load 25 x) (ad : Addr) (v : Value) (hx : a.eval x = .pointer (some ad)) (hc : w.cell? ad = some v) : (execOp a.eval o).run Tryz.prog w = .ok (.value v) w := by
  obtain ⟨d, hu, hd⟩ := w24; exact xb0 hu hd x ho ad v hx hc
theorem xpa {w : World} {a : Act} {o : Oper} (x : Operand) (ho : o.op = .call { callee := .builtin .len, args := #[x], argTypes := #[50] }) (A : Option Addr) (n c : Nat) (hx : a.eval x = .slice A n c) :
    (execOp a.eval o).run Tryz.prog w = .ok (.value (.int .i64 (n : Int))) w := by
  unfold execOp; simp only [ho, resolve, invoke, builtin, Sem.run_bind, Sem.run_pure, Result.andThen_ok, List.map_toArray, qk, ql, hx]; go_simp
theorem one_lft8 {w : World} {g : Nat} (x : UInt8) (hg : g < w.heap.size) : Lft (· = g) (w.alloc (.cells #[.int .u8 (x.toNat : Int)] 5)) (some ⟨w.heap.size, 0, none⟩) 1 1 [x] := xlv x _ rfl hg
theorem xr8 (t : UInt8) (A : Option Addr) (n c : Nat) (vs : List Value) (ls : List (List UInt8)) (w : World) (hl : ls.length = n) (hr : Rd w A vs) (ha : AllRd w vs ls) (hmx : ∀ (i : Nat) (v : Value), vs[i]? = some v → xnl v ≤ maxLen)
    (hn : n ≤ 1099511627776) (hb : ls.flatten.length + 1 ≤ 140737488355328) :
    Calls Tryz.prog 97 #[.int .u8 (t.toNat : Int), .slice A n c] w fun e w' => e = .returned (arr8 (shaL (t :: ls.flatten))) ∧ Below w.heap.size w w' := by
  have HL := hZ hl; have HM := hZ hmx; refine X1c ?_; intro hbz; refine X1d ?_; intro hw0; have C1 := fun u => hZ (xr3 u)
  have HRL : Hid ((shaL (t :: ls.flatten)).length = 32) := hZ (xbz _); have C3 := fun (g : Nat) (u : World) (h : St u g (t :: ls.flatten)) => hZ (xr5 g (t :: ls.flatten) u h (by simp only [qr]; omega))
  clear hl hmx; generalize shaL (t :: ls.flatten) = res at *; unfold arr8 at *; go_enter Tryz.func97, Tryz.ntmps97; go_upto_region 1 with fail; generalize hW : World.alloc w _ = w0; have h3 : Blk w0 w.heap.size 23 (bvs (zb 32)) ∧ Below w.heap.size w w0 := by rw [← hW]; exact ⟨hbz, hw0⟩
  clear hW hbz hw0; obtain ⟨hbz, hw0⟩ := h3; have hz := hbz.lt
  go_upto_region 2 with (first
    | (go_at_call 157; with_reducible refine (C1 _).out.mono ?_; rintro e w1 ⟨g, rfl, hg, hs1, hw1⟩))
  have hg1 := hs1.lt; have hs1a : St (w1.alloc (.cells #[.int .u8 (t.toNat : Int)] 5)) g [] := hs1.below ((Below.refl _ _).alloc (Nat.le_refl _) _); have W1 := hZ (xhy g [] (some ⟨w1.heap.size, 0, none⟩) 1 t _ hs1a (one_lft8 t hg1) (by simp)); refine X18 ?_; refine wpList_plain rfl fun K hK => ?_; go_simp
  refine Xu ?_; clear hK; refine wpList_plain rfl fun K hK => ?_; go_simp
  (with_reducible refine W1.out.mono ?_); rintro e w2 ⟨rfl, hs2, hf2⟩; refine hK _ _ ?_; clear hK; refine X16 ?_; rw [List.nil_append] at hs2; have hb1 : Below w.heap.size w (w1.alloc (.cells #[.int .u8 (t.toNat : Int)] 5)) := (hw0.trans (hw1.mono hw0.size)).alloc (by have := hw1.size; omega) _; have hgw : w.heap.size < g := by omega
  have hb2 : Below w.heap.size w w2 := hb1.trans (xjr hf2 (fun k e => by rw [e]; omega) hb1.size); have hz2 : Blk w2 w.heap.size 23 (bvs (zb 32)) := ((hbz.below hw1 hz).alloc _).fr hf2 (fun e => by omega); have hs2' : St w2 g (t :: (ls.take 0).flatten) := by simpa using hs2
  clear W1 hs1 hs1a hf2 hb1 hg1 hbz hw0 hz hw1 C1 hs2; go_upto_region 3 with fail; refine X11 ?_; refine xaa rfl _ (xpa _ rfl A n c rfl) ?_; refine X1e ?_; go_wp2_with fail
  go_loopw [15] (fun i wr => ∃ k : Nat, k ≤ n ∧ i = .int .i64 (k : Int) ∧ St wr g (t :: (ls.take k).flatten) ∧ Blk wr w.heap.size 23 (bvs (zb 32)) ∧ Below w.heap.size w wr) (fun i _ => n - (intOf i).toNat)
  case atStart => exact ⟨0, by omega, by go_num, hs2', hz2, hb2⟩
  case round =>
    clear hs2' hz2 hb2; obtain ⟨k, hk, rfl, hs2, hz2, hb2⟩ := hrel; by_cases hlt : k < n
    · have hltz : (k : Int) < (n : Int) := by omega
      have hkl : k < ls.length := by rw [HL.out]; exact hlt
      obtain ⟨v, hv⟩ : ∃ v, vs[k]? = some v := ⟨_, List.getElem?_eq_getElem (by have := ha.1; omega)⟩; obtain ⟨ad, rfl, hcc⟩ := hr (by have := ha.1; omega); have hc := hZ ((hb2.cell (World.block_lt_of_cell? w _ (hcc k v hv))).trans (hcc k v hv)); obtain ⟨A1, d1, rfl, hd1, hrd⟩ := ha.2 k v ls[k] hv (List.getElem?_eq_getElem hkl); have hlen := xes ls k hkl; have HF := hZ (xdf ls k hkl); have hmd : d1 ≤ maxLen := HM.out k _ hv; have W2 := hZ (xel g (t :: (ls.take k).flatten) A1 ls[k].length d1 ls[k] wr hs2 rfl (fun h0 => rd_lft hrd rfl hd1 hmd h0 hb2 (Nat.le_of_lt hgw)) (by simp only [qr]; omega)); go_upto_region 5 with fail; refine Xs ?_; refine xaa rfl _ (exec_sia Tryz.underlying50 sz24 _ _ rfl ad n c k _ rfl rfl hlt) ?_; refine X5 ?_; refine xaa rfl _ (xnm _ rfl _ _ rfl hc.out) ?_; refine X19 ?_
      go_wp2_with (first
        | (go_at_call 158; with_reducible refine W2.out.mono ?_; rintro e w3 ⟨rfl, hs3, hf3⟩))
      go_roundw
      case rel =>
        refine ⟨k + 1, by omega, by go_num, ?_, hz2.fr hf3 (fun e => by omega), hb2.trans (xjr hf3 (fun k e => by rw [e]; omega) hb2.size)⟩; rw [HF.out]; exact hs3
      case measure => simp only [intOf]; omega
    · obtain rfl : k = n := by omega
      have hs3 : St wr g (t :: ls.flatten) := by rwa [List.take_of_length_le (by rw [HL.out]; exact Nat.le_refl _)] at hs2
      go_upto_region 8 with fail; refine X11 ?_; refine wpList_plain rfl fun K hK => ?_; go_simp
      (with_reducible refine (C3 g wr hs3).out.mono ?_); rintro e w3 ⟨rfl, hw3⟩; refine Xu ?_; clear hK; refine xak at25w.i rfl (.tmp 4) (.tmp 24) rfl w.heap.size 0 23 (bvs (zb 32)) (bvs res) rfl rfl (hz2.below hw3 hz2.lt) (by rw [xae]; exact HRL.out) (by rw [xae, xb6]; omega) (xbo _) ?_; intro w4 hb4 hg4 hs4; refine X16 ?_; go_wp2_with fail; refine Xa ?_; rw [xbh _ _ (by rw [xae, xae, xb6]; exact HRL.out.symm)] at hb4; refine bodyPost_ret (xb3 rfl at25w _ _ w.heap.size 23 (bvs res) rfl hb4 (by rw [xae]; exact HRL.out)) rfl ?_; exact ⟨rfl, (hb2.trans (hw3.mono hb2.size)).grown hg4 (by have := hb2.size; have := hw3.size; omega) (by intro k hk; cases hk; omega)⟩
theorem xfn (t : UInt8) (z : Int) (hz : (t.toNat : Int) = z) (A : Option Addr) (n c : Nat) (vs : List Value) (ls : List (List UInt8)) (w : World) (hl : ls.length = n) (hr : Rd w A vs) (ha : AllRd w vs ls) (hmx : ∀ (i : Nat) (v : Value), vs[i]? = some v → xnl v ≤ maxLen)
    (hn : n ≤ 1099511627776) (hb : ls.flatten.length + 1 ≤ 140737488355328) :
    Calls Tryz.prog 97 #[.int .u8 z, .slice A n c] w fun e w' => e = .returned (arr8 (shaL (t :: ls.flatten))) ∧ Below w.heap.size w w' := by
  subst hz; exact xr8 t A n c vs ls w hl hr ha hmx hn hb
theorem xr9 (w : World) : Calls Tryz.prog 43 #[] w fun e w' => e = .returned (arr8 (shaL [0])) ∧ Below w.heap.size w w' := by
  refine X1c ?_; intro hbz; refine X1d ?_; intro hw0; have C := fun u => hZ (xfn 0 0 rfl none 0 0 [] [] u rfl (Rd.nil _ _) (AllRd.nil _) (fun i v h => by simp at h) (by omega) (by simp))
  have HRL : Hid ((shaL [0]).length = 32) := hZ (xbz _); rw [show (0 : UInt8) :: ([] : List (List UInt8)).flatten = [0] from rfl] at C; generalize shaL [0] = res at *; unfold arr8 at *; go_enter Tryz.func43, Tryz.ntmps43; go_upto_region 1 with fail; refine Xs ?_; refine wpList_plain rfl fun K hK => ?_; go_simp
  refine (C _).out.mono ?_; rintro e w3 ⟨rfl, hw3⟩; refine Xu ?_; clear hK; refine xak at25w.i rfl (.tmp 0) (.tmp 1) rfl w.heap.size 0 23 (bvs (zb 32)) (bvs res) rfl rfl (hbz.below hw3 hbz.lt) (by rw [xae]; exact HRL.out) (by rw [xae, xb6]; omega) (xbo _) ?_; intro w4 hb4 hg4 hs4; refine X16 ?_; go_wp2_with fail; refine Xa ?_; rw [xbh _ _ (by rw [xae, xae, xb6]; exact HRL.out.symm)] at hb4; refine bodyPost_ret (xb3 rfl at25w _ _ w.heap.size 23 (bvs res) rfl hb4 (by rw [xae]; exact HRL.out)) rfl ?_; exact ⟨rfl, (hw0.trans (hw3.mono hw0.size)).grown hg4 (Nat.le_trans hw0.size hw3.size) (by intro k hk; cases hk; omega)⟩
theorem xsa (A : Option Addr) (n c : Nat) (l : List UInt8) (w : World) (hr : Rd w A (bvs l)) (hl : l.length = n) (hcap : n ≤ c) (hmax : c ≤ maxLen) (hn : n ≤ 140737488351232) :
    Calls Tryz.prog 42 #[.slice A n c] w fun e w' => e = .returned (arr8 (shaL (3 :: l))) ∧ Below w.heap.size w w' := by
  subst hl; have hbz : Blk ((w.alloc (.cells (bvs (zb 32)).toArray 23)).alloc (.cells #[.slice A l.length c] 25)) w.heap.size 23 (bvs (zb 32)) := (Blk.new _ _ _).alloc _; have hw0 : Below w.heap.size w ((w.alloc (.cells (bvs (zb 32)).toArray 23)).alloc (.cells #[.slice A l.length c] 25)) := ((Below.refl _ _).alloc (Nat.le_refl _) _).alloc (by simp) _
  have hR : Rd ((w.alloc (.cells (bvs (zb 32)).toArray 23)).alloc (.cells #[.slice A l.length c] 25)) (some ⟨w.heap.size + 1, 0, none⟩) [.slice A l.length c] := by
    have := Rd.one_blk (Blk.new (w.alloc (.cells (bvs (zb 32)).toArray 23)) 25 [.slice A l.length c]); rwa [show (w.alloc (.cells (bvs (zb 32)).toArray 23)).heap.size = w.heap.size + 1 by simp] at this
  have C := hZ (xfn 3 3 rfl (some ⟨w.heap.size + 1, 0, none⟩) 1 1 [.slice A l.length c] [l] _ rfl hR (AllRd.cons ⟨A, c, rfl, hcap, (hr.alloc _).alloc _⟩ (AllRd.nil _)) (fun i v h => by
    cases i with
    | zero => cases h; exact hmax
    | succ i => simp at h) (by omega) (by simp; omega))
  have HRL : Hid ((shaL (3 :: l)).length = 32) := hZ (xbz _); rw [show (3 : UInt8) :: [l].flatten = 3 :: l by simp] at C; generalize shaL (3 :: l) = res at *; unfold arr8 at *; go_enter Tryz.func42, Tryz.ntmps42; go_upto_region 1 with fail; refine X11 ?_; refine wpList_plain rfl fun K hK => ?_; go_simp
  refine Xu ?_; clear hK; refine wpList_plain rfl fun K hK => ?_; go_simp
  refine C.out.mono ?_; rintro e w3 ⟨rfl, hw3⟩; refine Xu ?_; clear hK; refine xak at25w.i rfl (.tmp 2) (.tmp 5) rfl w.heap.size 0 23 (bvs (zb 32)) (bvs res) rfl rfl (hbz.below hw3 hbz.lt) (by rw [xae]; exact HRL.out) (by rw [xae, xb6]; omega) (xbo _) ?_; intro w4 hb4 hg4 hs4; refine X16 ?_; go_wp2_with fail; refine Xa ?_; rw [xbh _ _ (by rw [xae, xae, xb6]; exact HRL.out.symm)] at hb4; refine bodyPost_ret (xb3 rfl at25w _ _ w.heap.size 23 (bvs res) rfl hb4 (by rw [xae]; exact HRL.out)) rfl ?_; exact ⟨rfl, (hw0.trans (hw3.mono hw0.size)).grown hg4 (Nat.le_trans hw0.size hw3.size) (by intro k hk; cases hk; omega)⟩
theorem ia23 : IA Tryz.prog 24 32 := ⟨⟨_, Tryz.underlying24, by kernel_rfl⟩⟩
theorem xjw (u : World) (k v : List UInt8) (tk tv : TypeId) (g h : Nat) (hk : Blk u g tk (bvs k)) (hv : Blk u h tv (bvs v)) (lk : k.length = 32) (lv : v.length = 32) :
    Rd (u.alloc (.cells #[.slice (some ⟨g, 0, none⟩) 32 32, .slice (some ⟨h, 0, none⟩) 32 32] 25)) (some ⟨u.heap.size, 0, none⟩) [.slice (some ⟨g, 0, none⟩) 32 32, .slice (some ⟨h, 0, none⟩) 32 32] ∧
    AllRd (u.alloc (.cells #[.slice (some ⟨g, 0, none⟩) 32 32, .slice (some ⟨h, 0, none⟩) 32 32] 25)) [.slice (some ⟨g, 0, none⟩) 32 32, .slice (some ⟨h, 0, none⟩) 32 32] [k, v] ∧
    (∀ (i : Nat) (x : Value), [Value.slice (some ⟨g, 0, none⟩) 32 32, .slice (some ⟨h, 0, none⟩) 32 32][i]? = some x → xnl x ≤ maxLen) := by
  refine ⟨Rd.of_blk0 (es := []) (by simpa using Blk.new u 25 [.slice (some ⟨g, 0, none⟩) 32 32, .slice (some ⟨h, 0, none⟩) 32 32]), AllRd.cons ⟨_, 32, by rw [lk], by omega, ?_⟩ (AllRd.cons ⟨_, 32, by rw [lv], by omega, ?_⟩ (AllRd.nil _)), ?_⟩
  · exact (Rd.of_blk0 (es := []) (by simpa using hk)).alloc _
  · exact (Rd.of_blk0 (es := []) (by simpa using hv)).alloc _
  · intro i x hx
    have hm : (32 : Nat) ≤ maxLen := by unfold maxLen; omega
    match i, hx with
    | 0, hx => cases hx; exact hm
    | 1, hx => cases hx; exact hm
    | i + 2, hx => simp at hx
theorem leaf_any (k v : List UInt8) (w : World) (lk : k.length = 32) (lv : v.length = 32) :
    Calls Tryz.prog 41 #[arr8 k, arr8 v] w fun e w' => e = .returned (arr8 (shaL (1 :: (k ++ v)))) ∧ Below w.heap.size w w' := by
  have b1 : Blk (w.alloc (.cells (bvs k).toArray 24)) w.heap.size 24 (bvs k) := Blk.new _ _ _
  have b2 : Blk ((w.alloc (.cells (bvs k).toArray 24)).alloc (.cells (bvs v).toArray 23)) (w.heap.size + 1) 23 (bvs v) := by
    have := Blk.new (w.alloc (.cells (bvs k).toArray 24)) 23 (bvs v); rwa [show (w.alloc (.cells (bvs k).toArray 24)).heap.size = w.heap.size + 1 by simp] at this
  have b3 : Blk (((w.alloc (.cells (bvs k).toArray 24)).alloc (.cells (bvs v).toArray 23)).alloc (.cells (bvs (zb 32)).toArray 23)) (w.heap.size + 2) 23 (bvs (zb 32)) := by
    have := Blk.new ((w.alloc (.cells (bvs k).toArray 24)).alloc (.cells (bvs v).toArray 23)) 23 (bvs (zb 32)); rwa [show ((w.alloc (.cells (bvs k).toArray 24)).alloc (.cells (bvs v).toArray 23)).heap.size = w.heap.size + 2 by simp] at this
  have hall := And.intro ((b1.alloc (.cells (bvs v).toArray 23)).alloc (.cells (bvs (zb 32)).toArray 23)) (And.intro (b2.alloc (.cells (bvs (zb 32)).toArray 23)) (And.intro b3
    ((((Below.refl w.heap.size w).alloc (Nat.le_refl _) (.cells (bvs k).toArray 24)).alloc (by simp) (.cells (bvs v).toArray 23)).alloc (by simp; omega) (.cells (bvs (zb 32)).toArray 23))))
  clear b1 b2 b3; have C := fun (u : World) (A : Option Addr) (vs : List Value) (hr : Rd u A vs) (ha : AllRd u vs [k, v]) (hm : ∀ (i : Nat) (x : Value), vs[i]? = some x → xnl x ≤ maxLen) => hZ (xfn 1 1 rfl A 2 2 vs [k, v] u rfl hr ha hm (by omega) (by simp [lk, lv]))
  have HRL : Hid ((shaL (1 :: (k ++ v))).length = 32) := hZ (xbz _); rw [show (1 : UInt8) :: [k, v].flatten = 1 :: (k ++ v) by simp] at C; generalize shaL (1 :: (k ++ v)) = res at *; unfold arr8 at *; go_enter Tryz.func41, Tryz.ntmps41; go_upto_region 1 with fail; generalize hW : World.alloc (World.alloc (World.alloc w _) _) _ = w0; have h3 : Blk w0 w.heap.size 24 (bvs k) ∧ Blk w0 (w.heap.size + 1) 23 (bvs v) ∧ Blk w0 (w.heap.size + 2) 23 (bvs (zb 32)) ∧ Below w.heap.size w w0 := by rw [← hW]; exact hall
  clear hall hW; obtain ⟨c1, c2, c3, c4⟩ := h3; have T := xjw w0.drew k v 24 23 w.heap.size (w.heap.size + 1) c1.drew c2.drew lk lv; have T2 := hZ T; clear T; refine rB (Any) [4] [2, 3, 4] [0, 1, 2, 3, 4] 0 ?_; refine X3 ?_; have hS : (Any) _ := xhx w0.drew; refine xab rfl rfl hS (fun W hW => xcl ia23 _ rfl w.heap.size 0 rfl) ?_; refine X1h ?_; refine X5 ?_; refine xc7 rfl rfl ?_; intro K hK; go_simp; refine X1i ?_; intro hS1; refine hK _ _ (fun _ => hS1) ?_; clear hK; refine xc7 rfl rfl ?_; intro K hK; go_simp; refine (C _ _ _ T2.out.1 T2.out.2.1 T2.out.2.2).out.mono ?_; rintro e w3 ⟨rfl, hw3⟩; have hS2 := xhx w3; refine hK _ _ (fun _ => hS2) ?_; clear hK; refine Xe ?_; intro K hK
  refine xbs at25w.i (.tmp 4) (.tmp 8) rfl (w.heap.size + 2) 0 23 (bvs (zb 32)) (bvs res) rfl rfl ((c3.drew.alloc _).below hw3 (c3.drew.alloc _).lt) (by rw [xae]; exact HRL.out) (by rw [xae, xb6]; omega) (xbo _) ?_; intro w4 hb4 hg4 hs4; refine Xg ?_; clear hK; refine X9 ?_; have c5 : Below w.heap.size w (w0.drew.alloc (.cells #[.slice (some ⟨w.heap.size, 0, none⟩) 32 32, .slice (some ⟨w.heap.size + 1, 0, none⟩) 32 32] 25)) := c4.drew.alloc (by have := c4.size; simpa using this) _; go_wp2_with fail; refine Xa ?_; rw [xbh _ _ (by rw [xae, xae, xb6]; exact HRL.out.symm)] at hb4; refine bodyPost_ret (xb3 rfl at25w _ _ (w.heap.size + 2) 23 (bvs res) rfl hb4 (by rw [xae]; exact HRL.out)) rfl ?_; exact ⟨rfl, (c5.trans (hw3.mono c5.size)).grown hg4 (Nat.le_trans c5.size hw3.size) (by intro k hk; cases hk; omega)⟩
theorem xsb (k v : List UInt8) (w : World) (lk : k.length = 32) (lv : v.length = 32) :
    Calls Tryz.prog 44 #[arr8 k, arr8 v] w fun e w' => e = .returned (arr8 (shaL (2 :: (k ++ v)))) ∧ Below w.heap.size w w' := by
  have b1 : Blk (w.alloc (.cells (bvs k).toArray 23)) w.heap.size 23 (bvs k) := Blk.new _ _ _
  have b2 : Blk ((w.alloc (.cells (bvs k).toArray 23)).alloc (.cells (bvs v).toArray 23)) (w.heap.size + 1) 23 (bvs v) := by
    have := Blk.new (w.alloc (.cells (bvs k).toArray 23)) 23 (bvs v); rwa [show (w.alloc (.cells (bvs k).toArray 23)).heap.size = w.heap.size + 1 by simp] at this
  have b3 : Blk (((w.alloc (.cells (bvs k).toArray 23)).alloc (.cells (bvs v).toArray 23)).alloc (.cells (bvs (zb 32)).toArray 23)) (w.heap.size + 2) 23 (bvs (zb 32)) := by
    have := Blk.new ((w.alloc (.cells (bvs k).toArray 23)).alloc (.cells (bvs v).toArray 23)) 23 (bvs (zb 32)); rwa [show ((w.alloc (.cells (bvs k).toArray 23)).alloc (.cells (bvs v).toArray 23)).heap.size = w.heap.size + 2 by simp] at this
  have hall := And.intro ((b1.alloc (.cells (bvs v).toArray 23)).alloc (.cells (bvs (zb 32)).toArray 23)) (And.intro (b2.alloc (.cells (bvs (zb 32)).toArray 23)) (And.intro b3
    ((((Below.refl w.heap.size w).alloc (Nat.le_refl _) (.cells (bvs k).toArray 23)).alloc (by simp) (.cells (bvs v).toArray 23)).alloc (by simp; omega) (.cells (bvs (zb 32)).toArray 23))))
  clear b1 b2 b3; have C := fun (u : World) (A : Option Addr) (vs : List Value) (hr : Rd u A vs) (ha : AllRd u vs [k, v]) (hm : ∀ (i : Nat) (x : Value), vs[i]? = some x → xnl x ≤ maxLen) => hZ (xfn 2 2 rfl A 2 2 vs [k, v] u rfl hr ha hm (by omega) (by simp [lk, lv]))
  have HRL : Hid ((shaL (2 :: (k ++ v))).length = 32) := hZ (xbz _); rw [show (2 : UInt8) :: [k, v].flatten = 2 :: (k ++ v) by simp] at C; generalize shaL (2 :: (k ++ v)) = res at *; unfold arr8 at *; go_enter Tryz.func44, Tryz.ntmps44; go_upto_region 1 with fail; generalize hW : World.alloc (World.alloc (World.alloc w _) _) _ = w0; have h3 : Blk w0 w.heap.size 23 (bvs k) ∧ Blk w0 (w.heap.size + 1) 23 (bvs v) ∧ Blk w0 (w.heap.size + 2) 23 (bvs (zb 32)) ∧ Below w.heap.size w w0 := by rw [← hW]; exact hall
  clear hall hW; obtain ⟨c1, c2, c3, c4⟩ := h3; have T := xjw w0.drew k v 23 23 w.heap.size (w.heap.size + 1) c1.drew c2.drew lk lv; have T2 := hZ T; clear T; refine rB (Any) [4] [2, 3, 4] [0, 1, 2, 3, 4] 0 ?_; refine X3 ?_; have hS : (Any) _ := xhx w0.drew; refine xab rfl rfl hS (fun W hW => xcl ia25 _ rfl w.heap.size 0 rfl) ?_; refine X1h ?_; refine X5 ?_; refine xc7 rfl rfl ?_; intro K hK; go_simp; refine X1i ?_; intro hS1; refine hK _ _ (fun _ => hS1) ?_; clear hK; refine xc7 rfl rfl ?_; intro K hK; go_simp; refine (C _ _ _ T2.out.1 T2.out.2.1 T2.out.2.2).out.mono ?_; rintro e w3 ⟨rfl, hw3⟩; have hS2 := xhx w3; refine hK _ _ (fun _ => hS2) ?_; clear hK; refine Xe ?_; intro K hK
  refine xbs at25w.i (.tmp 4) (.tmp 8) rfl (w.heap.size + 2) 0 23 (bvs (zb 32)) (bvs res) rfl rfl ((c3.drew.alloc _).below hw3 (c3.drew.alloc _).lt) (by rw [xae]; exact HRL.out) (by rw [xae, xb6]; omega) (xbo _) ?_; intro w4 hb4 hg4 hs4; refine Xg ?_; clear hK; refine X9 ?_; have c5 : Below w.heap.size w (w0.drew.alloc (.cells #[.slice (some ⟨w.heap.size, 0, none⟩) 32 32, .slice (some ⟨w.heap.size + 1, 0, none⟩) 32 32] 25)) := c4.drew.alloc (by have := c4.size; simpa using this) _; go_wp2_with fail; refine Xa ?_; rw [xbh _ _ (by rw [xae, xae, xb6]; exact HRL.out.symm)] at hb4; refine bodyPost_ret (xb3 rfl at25w _ _ (w.heap.size + 2) 23 (bvs res) rfl hb4 (by rw [xae]; exact HRL.out)) rfl ?_; exact ⟨rfl, (c5.trans (hw3.mono c5.size)).grown hg4 (Nat.le_trans c5.size hw3.size) (by intro k hk; cases hk; omega)⟩
def Tx (w : World) (A : Option Addr) (n c : Nat) (l : List UInt8) : Prop := Lft (fun _ => False) w A n c l
theorem Tx.below {w w' : World} {A : Option Addr} {n c : Nat} {l : List UInt8} (h : Tx w A n c l) (hb : Below w.heap.size w w') : Tx w' A n c l := ⟨h.len, h.cap, h.max, h.rd.below hb, fun _ _ h => h⟩
theorem Tx.rd {w : World} {A : Option Addr} {n c : Nat} {l : List UInt8} (h : Tx w A n c l) : Rd w A (bvs l) := Lft.rd h
theorem Tx.len {w : World} {A : Option Addr} {n c : Nat} {l : List UInt8} (h : Tx w A n c l) : l.length = n := Lft.len h
theorem Tx.cap {w : World} {A : Option Addr} {n c : Nat} {l : List UInt8} (h : Tx w A n c l) : n ≤ c := Lft.cap h
theorem Tx.max {w : World} {A : Option Addr} {n c : Nat} {l : List UInt8} (h : Tx w A n c l) : c ≤ maxLen := Lft.max h
theorem xa4 {P : Program} {w : World} {a : Act} {o : Oper} {t t' : TypeId} {b : Bool} (x y : Operand) (ho : o.op = .binOp .neq t x y t') (m n : Int) (hx : a.eval x = .int .i64 m) (hy : a.eval y = .int .i64 n) (h : (m == n) = !b) :
    (execOp a.eval o).run P w = .ok (.value (.bool b)) w := by
  unfold execOp; simp only [ho, hx, hy]; go_simp; cases b <;> simp_all
theorem xsc : ∀ x, x < 256 → x ≠ 0 → (1 ≤ Lib.bitLen x ∧ Lib.bitLen x ≤ 8 ∧ x.testBit (Lib.bitLen x - 1) = true ∧ ∀ e, e < 8 - Lib.bitLen x → x.testBit (7 - e) = false) := by decide +kernel
theorem xsd (p q : List UInt8) (k : Nat) (hk : k < 32) (hl : ∀ j, j < k → p.getD j 0 = q.getD j 0) (h0 : (p.getD k 0).toNat ^^^ (q.getD k 0).toNat ≠ 0) :
    comm p q = 8 * k + (8 - Lib.bitLen ((p.getD k 0).toNat ^^^ (q.getD k 0).toNat)) := by
  obtain ⟨a, ha⟩ : ∃ a, a = (p.getD k 0).toNat := ⟨_, rfl⟩; obtain ⟨b, hb⟩ : ∃ b, b = (q.getD k 0).toNat := ⟨_, rfl⟩; have ha8 : a < 256 := by rw [ha]; exact UInt8.toNat_lt _
  have hb8 : b < 256 := by rw [hb]; exact UInt8.toNat_lt _
  rw [← ha, ← hb] at h0 ⊢; obtain ⟨h1, h2, h3, h4⟩ := xsc (a ^^^ b) (Nat.xor_lt_two_pow (n := 8) ha8 hb8) h0; apply xqe
  · omega
  · intro d hd
    unfold tb; by_cases hdk : d / 8 < k
    · rw [hl _ hdk]
    · have e : d / 8 = k := by omega
      rw [e, ← ha, ← hb]; have := h4 (d % 8) (by omega); rw [Nat.testBit_xor] at this; simpa using this
  · intro hlt
    unfold tb; have e : (8 * k + (8 - Lib.bitLen (a ^^^ b))) / 8 = k := by omega
    have e2 : 7 - (8 * k + (8 - Lib.bitLen (a ^^^ b))) % 8 = Lib.bitLen (a ^^^ b) - 1 := by omega
    rw [e, e2, ← ha, ← hb]; rw [Nat.testBit_xor] at h3; simpa using h3
theorem xpb (p q : List UInt8) (w : World) (hp : p.length = 32) (hq : q.length = 32) :
    Calls Tryz.prog 147 #[arr8 p, arr8 q] w fun e w' => e = .returned (.int .i64 (comm p q : Nat)) ∧ Below w.heap.size w w' := by
  have HP := hZ hp; have HQ := hZ hq; clear hp hq; have h2 := Two.mk' w 24 p q; unfold arr8; by_cases he : p = q
  · have e1 : comm p q = 256 := by rw [he]; exact xrm q
    rw [e1]; have HE := hZ he; clear he; go_enter Tryz.func147, Tryz.ntmps147
    go_wp2_with (first
      | ((with_reducible refine xat 7 ?_); refine xaa rfl _ (xa6 at23' (.tmp 2) rfl _ 24 (bvs p) rfl h2.p (by rw [xae]; exact HP.out)) ?_)
      | ((with_reducible refine xat 8 ?_); refine xaa rfl _ (xa6 at23' (.tmp 3) rfl _ 24 (bvs q) rfl h2.q (by rw [xae]; exact HQ.out)) ?_)
      | ((with_reducible refine xat 9 ?_); refine xaa rfl (.bool true) (by rw [xe7 ab23 (.tmp 7) (.tmp 8) rfl p q rfl rfl HP.out HQ.out, HE.out, beq_self_eq_true]) ?_))
    go_ret; exact ⟨rfl, h2.b⟩
  · have HE := hZ he; clear he
    have hbeq : Hid ((p == q) = false) := by show _ = _; simpa using HE.out
    go_enter Tryz.func147, Tryz.ntmps147
    go_wp2_with (first
      | ((with_reducible refine xat 7 ?_); refine xaa rfl _ (xa6 at23' (.tmp 2) rfl _ 24 (bvs p) rfl h2.p (by rw [xae]; exact HP.out)) ?_)
      | ((with_reducible refine xat 8 ?_); refine xaa rfl _ (xa6 at23' (.tmp 3) rfl _ 24 (bvs q) rfl h2.q (by rw [xae]; exact HQ.out)) ?_)
      | ((with_reducible refine xat 9 ?_); refine xaa rfl (.bool false) (by rw [xe7 ab23 (.tmp 7) (.tmp 8) rfl p q rfl rfl HP.out HQ.out, hbeq.out]) ?_))
    generalize hW : (w.alloc (.cells (bvs p).toArray 24)).alloc (.cells (bvs q).toArray 24) = w0 at *; clear hW
    go_loopw [10] (fun i wr => ∃ k : Nat, k ≤ 32 ∧ i = .int .i64 (k : Int) ∧ (∀ j, j < k → p.getD j 0 = q.getD j 0) ∧ Below w0.heap.size w0 wr) (fun i _ => 32 - (intOf i).toNat)
    case atStart => exact ⟨0, by omega, by go_num, fun j hj => by omega, Below.refl _ _⟩
    case round =>
      obtain ⟨k, hk, rfl, hl, hw⟩ := hrel; have hb := h2.b.trans (hw.mono h2.b.size); by_cases hlt : k < 32
      · have hc1 : wr.cell? ⟨w.heap.size, k, none⟩ = some (.int .u8 ((p.getD k 0).toNat : Int)) := xjm (h2.p.below hw h2.p.lt) HP.out k hlt
        have hc2 : wr.cell? ⟨w.heap.size + 1, k, none⟩ = some (.int .u8 ((q.getD k 0).toNat : Int)) := xjm (h2.q.below hw h2.q.lt) HQ.out k hlt; have hx0 := u8_xor_nat (p.getD k 0).toNat (q.getD k 0).toNat (UInt8.toNat_lt _) (UInt8.toNat_lt _); have hx8 : (p.getD k 0).toNat ^^^ (q.getD k 0).toNat < 256 := Nat.xor_lt_two_pow (n := 8) (UInt8.toNat_lt _) (UInt8.toNat_lt _); have hxe := hZ (xsd p q k hlt hl)
        have hxn : Hid ((p.getD k 0).toNat ^^^ (q.getD k 0).toNat = 0 → p.getD k 0 = q.getD k 0) := by
          intro h; apply UInt8.toNat_inj.1; apply Nat.eq_of_testBit_eq; intro i; have h1 := congrArg (fun z => z.testBit i) h; simpa [Nat.testBit_xor] using h1
        obtain ⟨a, ha⟩ : ∃ a, a = p.getD k 0 := ⟨_, rfl⟩; obtain ⟨b, hbb⟩ : ∃ b, b = q.getD k 0 := ⟨_, rfl⟩; rw [← ha] at hc1 hx0 hx8 hxe hxn; rw [← hbb] at hc2 hx0 hx8 hxe hxn; have HA := hZ ha; clear ha; have HB := hZ hbb; clear hbb; generalize hx : a.toNat ^^^ b.toNat = x at *; have HX := hZ hx; clear hx; have HLK := hZ hl; clear hl; have h8 : Lib.bitLen x ≤ 8 := Lib.bitLen_le8 ⟨x, hx8⟩; go_wp2_with fail; refine rB (Below wr.heap.size wr) [] [] [0, 1, 2, 3, 4, 5, 6, 7] 0 ?_; refine X3 ?_; have hS : (Below wr.heap.size wr) _ := (Below.refl _ _).drew; refine X7 ?_; refine xab (v := ?_) rfl rfl hS ?_ ?_; rotate_left; (· intro W hW; have hcw1 := (Below.cell hW (World.block_lt_of_cell? _ _ hc1)).trans hc1; go_simp; try with_reducible rfl); refine X5 ?_; refine X7 ?_
        refine xab (v := ?_) rfl rfl hS ?_ ?_; rotate_left; (· intro W hW; have hcw2 := (Below.cell hW (World.block_lt_of_cell? _ _ hc2)).trans hc2; go_simp; try with_reducible rfl); refine X5 ?_; refine X7 ?_; refine X9 ?_; go_wp2_with (go_at_call 209; refine (xo7 (x : Int) _ (by omega) (by omega)).mono ?_; rintro e w1 ⟨rfl, rfl⟩; rw [Int.toNat_natCast])
        · go_ret
          rename_i hh; have h0 : x ≠ 0 := by simpa using hh
          refine ⟨ret_i ?_, h2.b.trans ((hw.trans (hS.mono hw.size)).mono h2.b.size)⟩; have := hxe.out h0; rw [this]; omega
        · rename_i hh
          have h0 : x = 0 := by simpa using hh
          go_roundw
          case rel =>
            refine ⟨k + 1, by omega, by go_num, fun j hj => ?_, hw.trans (hS.mono hw.size)⟩; by_cases hjk : j = k
            · rw [hjk, ← HA.out, ← HB.out]; exact hxn.out h0
            · exact HLK.out j (by omega)
          case measure => simp only [intOf]; omega
      · obtain rfl : k = 32 := by omega
        exfalso; apply HE.out; apply List.ext_getElem?; intro i; by_cases hi : i < 32
        · have := hl i hi
          rw [List.getD_eq_getElem?_getD, List.getD_eq_getElem?_getD] at this; rw [List.getElem?_eq_getElem (by rw [HP.out]; exact hi), List.getElem?_eq_getElem (by rw [HQ.out]; exact hi)] at this ⊢; simpa using this
        · rw [List.getElem?_eq_none (by rw [HP.out]; omega), List.getElem?_eq_none (by rw [HQ.out]; omega)]
def fbN (x : Nat) (k : Int) (b : Bool) : Nat :=
  if k ≤ 0 then (if b then 255 else 0) else if k < 8 then (x &&& (255 - 255 / 2 ^ k.toNat)) ||| ((if b then 255 else 0) &&& (255 / 2 ^ k.toNat)) else x
theorem fb_mid : ∀ x, x < 256 → ∀ k, k < 8 → ∀ b : Bool, ((x &&& (255 - 255 / 2 ^ k)) ||| ((if b then 255 else 0) &&& (255 / 2 ^ k)) < 256 ∧
    ∀ e, e < 8 → ((x &&& (255 - 255 / 2 ^ k)) ||| ((if b then 255 else 0) &&& (255 / 2 ^ k))).testBit (7 - e) = if e < k then x.testBit (7 - e) else b) := by decide +kernel
theorem fb_all : ∀ b : Bool, ∀ e, e < 8 → (if b then 255 else 0 : Nat).testBit (7 - e) = b := by decide +kernel
theorem xpc (x : Nat) (hx : x < 256) (k : Int) (b : Bool) : fbN x k b < 256 := by
  unfold fbN
  split
  · split <;> omega
  · split
    · exact (fb_mid x hx k.toNat (by omega) b).1
    · exact hx
theorem fbN_bit (x : Nat) (hx : x < 256) (k : Int) (b : Bool) (e : Nat) (he : e < 8) : (fbN x k b).testBit (7 - e) = if (e : Int) < k then x.testBit (7 - e) else b := by
  unfold fbN
  split
  · rw [fb_all b e he, if_neg (by omega)]
  · split
    · rw [(fb_mid x hx k.toNat (by omega) b).2 e he]
      by_cases h : (e : Int) < k
      · rw [if_pos h, if_pos (by omega)]
      · rw [if_neg h, if_neg (by omega)]
    · rw [if_pos (by omega)]
def xdi (p : List UInt8) (d : Nat) (b : Bool) (k : Nat) : List UInt8 := (List.range 32).map fun i => if i < k then UInt8.ofNat (fbN (p.getD i 0).toNat ((d : Int) - 8 * (i : Int)) b) else p.getD i 0
theorem xbb (p : List UInt8) (d : Nat) (b : Bool) (k : Nat) : (xdi p d b k).length = 32 := by simp [xdi]
theorem xc9 (p : List UInt8) (d : Nat) (b : Bool) (k i : Nat) (hi : i < 32) : (xdi p d b k).getD i 0 = if i < k then UInt8.ofNat (fbN (p.getD i 0).toNat ((d : Int) - 8 * (i : Int)) b) else p.getD i 0 := by
  unfold xdi; rw [List.getD_eq_getElem?_getD, List.getElem?_map, List.getElem?_range hi]; rfl
theorem xjx {l m : List UInt8} (hl : l.length = 32) (hm : m.length = 32) (h : ∀ i, i < 32 → l.getD i 0 = m.getD i 0) : l = m := by
  apply List.ext_getElem?; intro i; by_cases hi : i < 32
  · have := h i hi
    rw [List.getD_eq_getElem?_getD, List.getD_eq_getElem?_getD, List.getElem?_eq_getElem (by omega), List.getElem?_eq_getElem (by omega)] at this; rw [List.getElem?_eq_getElem (by omega), List.getElem?_eq_getElem (by omega)]; simpa using this
  · rw [List.getElem?_eq_none (by omega), List.getElem?_eq_none (by omega)]
theorem xnn (p : List UInt8) (d : Nat) (b : Bool) (hp : p.length = 32) : xdi p d b 0 = p :=
  xjx (xbb _ _ _ _) hp fun i hi => by rw [xc9 _ _ _ _ _ hi, if_neg (by omega)]
theorem set_getD (l : List UInt8) (k i : Nat) (x : UInt8) (hk : k < l.length) : (l.set k x).getD i 0 = if i = k then x else l.getD i 0 := by
  rw [List.getD_eq_getElem?_getD, List.getElem?_set]; by_cases h : k = i
  · subst h; rw [if_pos rfl, if_pos hk, if_pos rfl]; rfl
  · rw [if_neg h, if_neg (fun e => h e.symm), List.getD_eq_getElem?_getD]
theorem xno (p : List UInt8) (d : Nat) (b : Bool) (k : Nat) (hk : k < 32) : (xdi p d b k).set k (UInt8.ofNat (fbN (p.getD k 0).toNat ((d : Int) - 8 * (k : Int)) b)) = xdi p d b (k + 1) :=
  xjx (by simp [xbb]) (xbb _ _ _ _) fun i hi => by
    rw [set_getD _ _ _ _ (by rw [xbb]; exact hk), xc9 _ _ _ _ _ hi, xc9 _ _ _ _ _ hi]; by_cases h : i = k
    · subst h; rw [if_pos rfl, if_pos (by omega)]
    · rw [if_neg h]
      by_cases h2 : i < k
      · rw [if_pos h2, if_pos (by omega)]
      · rw [if_neg h2, if_neg (by omega)]
theorem xnp (p : List UInt8) (d : Nat) (b : Bool) (k : Nat) (hk : k < 32) (h8 : 8 ≤ (d : Int) - 8 * (k : Int)) : xdi p d b k = xdi p d b (k + 1) :=
  xjx (xbb _ _ _ _) (xbb _ _ _ _) fun i hi => by
    rw [xc9 _ _ _ _ _ hi, xc9 _ _ _ _ _ hi]; by_cases h : i = k
    · subst h; rw [if_neg (by omega), if_pos (by omega)]
      unfold fbN; rw [if_neg (by omega), if_neg (by omega), UInt8.ofNat_toNat]
    · by_cases h2 : i < k
      · rw [if_pos h2, if_pos (by omega)]
      · rw [if_neg h2, if_neg (by omega)]
theorem xpd (p : List UInt8) (d : Nat) (b : Bool) (hp : p.length = 32) (hd : d ≤ 256) : xdi p d b 32 = be 32 (xg1 (nOf p) d b) := by
  apply key_of (xbb _ _ _ _) (xm5 _ _ _ (xet hp) hd); intro e he; rw [xkx _ _ _ _ he hd]; unfold tb; rw [xc9 _ _ _ _ _ (by omega), if_pos (by omega), UInt8.toNat_ofNat_of_lt' (xpc _ (UInt8.toNat_lt _) _ _), fbN_bit _ (UInt8.toNat_lt _) _ _ _ (by omega)]; have e1 := xdz p hp e he; unfold tb at e1; by_cases h : e < d
  · rw [if_pos h, if_pos (by omega), e1]
  · rw [if_neg h, if_neg (by omega)]
theorem mix_word (x z m : Nat) (hx : x < 256) (hz : z < 256) (hm : m < 8) :
    Value.int .u8 (bits .or .u8 (bits .andNot .u8 (x : Int) (255 / 2 ^ m)) (bits .and .u8 (z : Int) (255 / 2 ^ m))) = .int .u8 (((x &&& (255 - 255 / 2 ^ m)) ||| (z &&& (255 / 2 ^ m)) : Nat) : Int) := by
  have e2 : (255 : Int) / 2 ^ m = ((255 / 2 ^ m : Nat) : Int) := by simp
  have e3 : 255 / 2 ^ m < 256 := Nat.lt_of_le_of_lt (Nat.div_le_self _ _) (by omega); rw [e2, u8_andNot_nat _ _ hx e3, u8_and_nat _ _ hz e3, u8_or_nat _ _ (Nat.lt_of_le_of_lt Nat.and_le_left hx) (Nat.lt_of_le_of_lt Nat.and_le_left hz)]
theorem xly {α : Type} (L vs : List α) (h : vs.length = L.length) : splice L 0 vs = vs := by
  unfold splice; rw [List.drop_eq_nil_of_le (by omega)]; simp
theorem xen (q : List UInt8) (hq : q.length = 32) : splice (bvs keyZ) 0 (bvs q) = bvs q := xly _ _ (by rw [xae, xae, xbl, hq])
theorem bv_nat (n : Nat) (h : n < 256) : bv (UInt8.ofNat n) = .int .u8 (n : Int) := by
  unfold bv; rw [UInt8.toNat_ofNat_of_lt' h]
def keyE (b : Bool) : Nat := if b then 255 else 0
def xgk (p : List UInt8) (d : Int) (b : Bool) : List UInt8 := if 0 ≤ d ∧ d ≤ 256 then be 32 (xg1 (nOf p) d.toNat b) else keyZ
def fillE (d : Int) : Int := if 0 ≤ d ∧ d ≤ 256 then 0 else 2
theorem xg6 (p : List UInt8) (d : Int) (b : Bool) : (xgk p d b).length = 32 := by unfold xgk; split; exact xaq _ _; exact xbl
theorem xpe (p : List UInt8) (d : Int) (b : Bool) (w : World) (hp : p.length = 32) (hd : -9223372036854775808 ≤ d ∧ d ≤ 9223372036854775807) :
    Calls Tryz.prog 247 #[arr8 p, .int .i64 d, .int .u8 (keyE b : Nat)] w fun e w' =>
      e = .returned (.tuple #[arr8 (xgk p d b), .int .i64 (fillE d)]) ∧ Below w.heap.size w w' := by
  have HP := hZ hp; have h2 := Two.mk' w 24 p keyZ; have hz8 : keyE b < 256 := by unfold keyE; split <;> omega
  unfold xgk fillE; by_cases hr : 0 ≤ d ∧ d ≤ 256
  · rw [if_pos hr, if_pos hr]
    obtain ⟨n, rfl⟩ := Int.eq_ofNat_of_zero_le hr.1; have hn : n ≤ 256 := by omega
    rw [Int.toNat_natCast, ← xpd p n b hp hn]; clear hr hd hp; have HF : Hid (keyE b = if b then 255 else 0) := rfl; generalize keyE b = z at *; unfold arr8; go_enter Tryz.func247, Tryz.ntmps247; go_wp2_with fail
    go_loopw [18] (fun i wr => ∃ k : Nat, k ≤ 32 ∧ i = .int .i64 (k : Int) ∧ Blk wr w.heap.size 24 (bvs (xdi p n b k)) ∧ Blk wr (w.heap.size + 1) 24 (bvs keyZ) ∧ Below w.heap.size w wr) (fun i _ => 32 - (intOf i).toNat)
    case atStart => exact ⟨0, by omega, by go_num, by rw [xnn p n b HP.out]; exact h2.p, h2.q, h2.b⟩
    case round =>
      obtain ⟨k, hk, rfl, hb, hq, hw⟩ := hrel; by_cases hlt : k < 32
      · have hc : wr.cell? ⟨w.heap.size, k, none⟩ = some (.int .u8 ((p.getD k 0).toNat : Int)) := by
          rw [xjm hb (xbb _ _ _ _) k hlt, xc9 _ _ _ _ _ hlt, if_neg (by omega)]
        have hf := hb.free k; have hx8 : (p.getD k 0).toNat < 256 := UInt8.toNat_lt _; have hsucc := hZ (xno p n b k hlt); have hsame := hZ (xnp p n b k hlt); obtain ⟨x, hx⟩ : ∃ x, x = (p.getD k 0).toNat := ⟨_, rfl⟩; rw [← hx] at hc hx8; have HX := hZ hx; clear hx; by_cases hk0 : (n : Int) - 8 * (k : Int) ≤ 0
        · go_wp2_with fail
          go_roundw
          case rel =>
            have h1 := hb.set_ k (bv (UInt8.ofNat (fbN (p.getD k 0).toNat ((n : Int) - 8 * (k : Int)) b))); rw [xqa, hsucc.out, bv_nat _ (xpc _ (UInt8.toNat_lt _) _ _)] at h1; have e1 : fbN (p.getD k 0).toNat ((n : Int) - 8 * (k : Int)) b = z := by unfold fbN; rw [if_pos hk0]; exact HF.out.symm
            rw [e1] at h1; exact ⟨k + 1, by omega, by go_num, h1, hq.far (by simp) _, hw.setCell (Nat.le_refl _) _⟩
          case measure => simp only [intOf]; omega
        · obtain ⟨m, hm⟩ := Int.eq_ofNat_of_zero_le (show 0 ≤ (n : Int) - 8 * (k : Int) by omega)
          by_cases hk8 : m < 8
          · have hmix := mix_word x z m hx8 hz8 hk8
            rw [hm] at hsucc hk0; go_wp2_with fail; go_roundw
            case rel =>
              have h1 := hb.set_ k (bv (UInt8.ofNat (fbN (p.getD k 0).toNat (m : Int) b))); rw [xqa, hsucc.out, bv_nat _ (xpc _ (UInt8.toNat_lt _) _ _)] at h1
              have e1 : fbN (p.getD k 0).toNat (m : Int) b = (x &&& (255 - 255 / 2 ^ m)) ||| (z &&& (255 / 2 ^ m)) := by
                unfold fbN; rw [if_neg hk0, if_pos (by omega), Int.toNat_natCast, ← HX.out, HF.out]
              rw [e1] at h1; exact ⟨k + 1, by omega, by go_num, h1, hq.far (by simp) _, hw.setCell (Nat.le_refl _) _⟩
            case measure => simp only [intOf]; omega
          · have e8 := hsame.out (by omega)
            have E8 := hZ e8; clear e8; go_wp2_with fail; go_roundw
            case rel => exact ⟨k + 1, by omega, by go_num, by rw [← E8.out]; exact hb, hq, hw⟩
            case measure => simp only [intOf]; omega
      · obtain rfl : k = 32 := by omega
        go_wp2_with (first
          | ((with_reducible refine xat 48 ?_); refine xaa rfl _ (xa6 at23' (.tmp 3) rfl _ 24 (bvs (xdi p n b 32)) rfl hb (by rw [xae]; exact xbb _ _ _ _)) ?_)
          | ((with_reducible refine xej (Op.store 24 (.tmp 6) (.tmp 48)) ?_)
             refine xak at23'.i rfl (.tmp 6) (.tmp 48) rfl (w.heap.size + 1) 0 24 (bvs keyZ) (bvs (xdi p n b 32)) rfl rfl hq (by rw [xae]; exact xbb _ _ _ _) (by rw [xae]; simp [keyZ]) (xbo _) ?_
             intro w1 hb1 hg1 hs1))
        refine Xa ?_; rw [xen _ (xbb _ _ _ _)] at hb1; refine bodyPost_ret (xby rfl at23' _ _ (w.heap.size + 1) 24 (bvs (xdi p n b 32)) rfl hb1 (by rw [xae]; exact xbb _ _ _ _)) rfl ?_; exact ⟨rfl, hw.grown hg1 hw.size (by intro k hk; cases hk; omega)⟩
  · rw [if_neg hr, if_neg hr]
    clear hp; unfold arr8; by_cases h0 : d < 0
    · go_enter Tryz.func247, Tryz.ntmps247
      go_wp2_with (
         (with_reducible refine xej (Op.store 24 (.tmp 6) (.tmp 17)) ?_); refine xak at23'.i rfl (.tmp 6) (.tmp 17) rfl (w.heap.size + 1) 0 24 (bvs keyZ) (bvs keyZ) rfl rfl h2.q (by rw [xae]; exact xbl) (by rw [xae]; simp [keyZ]) (xbo _) ?_
         intro w1 hb1 hg1 hs1)
      refine Xa ?_; rw [xen _ xbl] at hb1; refine bodyPost_ret (xby rfl at23' _ _ (w.heap.size + 1) 24 (bvs keyZ) rfl hb1 (by rw [xae]; exact xbl)) rfl ?_; exact ⟨rfl, h2.b.grown hg1 h2.b.size (by intro k hk; cases hk; omega)⟩
    · have h1 : 256 < d := by omega
      go_enter Tryz.func247, Tryz.ntmps247
      go_wp2_with (
         (with_reducible refine xej (Op.store 24 (.tmp 6) (.tmp 17)) ?_); refine xak at23'.i rfl (.tmp 6) (.tmp 17) rfl (w.heap.size + 1) 0 24 (bvs keyZ) (bvs keyZ) rfl rfl h2.q (by rw [xae]; exact xbl) (by rw [xae]; simp [keyZ]) (xbo _) ?_
         intro w1 hb1 hg1 hs1)
      refine Xa ?_; rw [xen _ xbl] at hb1; refine bodyPost_ret (xby rfl at23' _ _ (w.heap.size + 1) 24 (bvs keyZ) rfl hb1 (by rw [xae]; exact xbl)) rfl ?_; exact ⟨rfl, h2.b.grown hg1 h2.b.size (by intro k hk; cases hk; omega)⟩
theorem xse (p : List UInt8) (d : Int) (w : World) (hp : p.length = 32) (hd : -9223372036854775808 ≤ d ∧ d ≤ 9223372036854775807) :
    Calls Tryz.prog 219 #[arr8 p, .int .i64 d] w fun e w' => e = .returned (.tuple #[arr8 (xgk p d false), .int .i64 (fillE d)]) ∧ Below w.heap.size w w' := by
  have HP := hZ hp; have h2 := Two.mk' w 24 p keyZ; have hx0 := xg6 p d false; have hcall := fun W => xpe p d false W hp hd
  generalize xgk p d false = x at *; have hx := hZ hx0; have HC := hZ hcall; clear hx0 hcall hp; unfold arr8; go_enter Tryz.func219, Tryz.ntmps219
  go_wp2_with (first
    | ((with_reducible refine xat 6 ?_); refine xaa rfl _ (xa6 at23' (.tmp 2) rfl _ 24 (bvs p) rfl h2.p (by rw [xae]; exact HP.out)) ?_)
    | (go_at_call 247; refine (HC.out _).mono ?_; rintro e w1 ⟨rfl, hw1⟩)
    | ((with_reducible refine xej (Op.store 24 (.tmp 4) (.tmp 9)) ?_)
       refine xak at23'.i rfl (.tmp 4) (.tmp 9) rfl (w.heap.size + 1) 0 24 (bvs keyZ) (bvs x) rfl rfl (h2.q.below hw1 h2.q.lt) (by rw [xae]; exact hx.out) (by rw [xae]; simp [keyZ]) (xbo _) ?_
       intro w2 hb1 hg1 hs1))
  refine Xa ?_; rw [xen _ hx.out] at hb1; refine bodyPost_ret (xby rfl at23' _ _ (w.heap.size + 1) 24 (bvs x) rfl hb1 (by rw [xae]; exact hx.out)) rfl ?_; exact ⟨rfl, (h2.b.trans (hw1.mono h2.b.size)).grown hg1 (Nat.le_trans h2.b.size hw1.size) (by intro k hk; cases hk; omega)⟩
def tagE : D32 := ⟨shaL [0], xbz _⟩
def tagV (l : List UInt8) : D32 := ⟨shaL (3 :: l), xbz _⟩
def tagL (k v : D32) : D32 := ⟨shaL (1 :: (k.l ++ v.l)), xbz _⟩
def tagI (a b : D32) : D32 := ⟨shaL (2 :: (a.l ++ b.l)), xbz _⟩
def xnq (p : D32) (d : Int) (b : Bool) : D32 := ⟨xgk p.l d b, xg6 _ _ _⟩
abbrev D32.a (x : D32) : Value := .agg x.c.toArray
section
variable (w : World)
theorem xqi : Calls Tryz.prog 43 #[] w fun e w' => e = .returned tagE.a ∧ Below w.heap.size w w' := xr9 w
theorem xlz (A : Option Addr) (n c : Nat) (l : List UInt8) (hr : Rd w A (bvs l)) (hl : l.length = n) (hcap : n ≤ c) (hmax : c ≤ maxLen) (hn : n ≤ 140737488351232) :
    Calls Tryz.prog 42 #[.slice A n c] w fun e w' => e = .returned (tagV l).a ∧ Below w.heap.size w w' := xsa A n c l w hr hl hcap hmax hn
theorem xpf (k v : D32) : Calls Tryz.prog 41 #[k.a, v.a] w fun e w' => e = .returned (tagL k v).a ∧ Below w.heap.size w w' := leaf_any k.l v.l w k.h v.h
theorem xi2 (k v : D32) : Calls Tryz.prog 44 #[k.a, v.a] w fun e w' => e = .returned (tagI k v).a ∧ Below w.heap.size w w' := xsb k.l v.l w k.h v.h
theorem xsf (p q : D32) : Calls Tryz.prog 14 #[p.a, q.a] w fun e w' => e = .returned (.int .i64 (cmpZ (nOf p.l) (nOf q.l))) ∧ Below w.heap.size w w' := xne p.l q.l w p.h q.h
theorem xnr (p q : D32) : Calls Tryz.prog 147 #[p.a, q.a] w fun e w' => e = .returned (.int .i64 (comm p.l q.l : Nat)) ∧ Below w.heap.size w w' := xpb p.l q.l w p.h q.h
theorem bit_d (p : D32) (d : Int) (hd : -9223372036854775808 ≤ d ∧ d ≤ 9223372036854775807) : Calls Tryz.prog 150 #[p.a, .int .i64 d] w fun e w' => e = .returned (.int .i64 (bitZ p.l d)) ∧ Below w.heap.size w w' := bit_any p.l d w p.h hd
theorem xl0 (p : D32) (d : Int) (hd : -9223372036854775808 ≤ d ∧ d ≤ 9223372036854775807) : Calls Tryz.prog 219 #[p.a, .int .i64 d] w fun e w' => e = .returned (.tuple #[(xnq p d false).a, .int .i64 (fillE d)]) ∧ Below w.heap.size w w' := xse p.l d w p.h hd
theorem of_d (A : Option Addr) (n c : Nat) (p : D32) (hr : Rd w A (bvs p.l)) (hl : n = 32) (hc : n ≤ c) : Calls Tryz.prog 40 #[.slice A n c] w fun e w' => e = .returned (.tuple #[p.a, .int .i64 0]) ∧ Below w.heap.size w w' := by
  have h := of_any A n c p.l w hr (by rw [p.h, hl]) (by omega) hc; rw [if_pos p.h, if_pos p.h] at h; exact h
end
theorem xjy (w : World) (p : D32) (d : Nat) (hd : d < 256) : Calls Tryz.prog 150 #[p.a, .int .i64 (d : Int)] w fun e w' => e = .returned (.int .i64 ((tb p.l d).toNat : Int)) ∧ Below w.heap.size w w' := by
  have h := bit_d w p (d : Int) (by omega); rwa [show bitZ p.l (d : Int) = ((tb p.l d).toNat : Int) by unfold bitZ; rw [if_pos ⟨by omega, by omega⟩, Int.toNat_natCast]] at h
theorem fa61_0 : FA Tryz.prog 61 0 0 := ⟨_, _, Tryz.underlying61, rfl, rfl, by kernel_rfl⟩
theorem fa61_1 : FA Tryz.prog 61 1 32 := ⟨_, _, Tryz.underlying61, rfl, rfl, by kernel_rfl⟩
theorem fa80_0 : FA Tryz.prog 80 0 0 := ⟨_, _, Tryz.underlying80, rfl, rfl, by kernel_rfl⟩
theorem fa80_1 : FA Tryz.prog 80 1 1 := ⟨_, _, Tryz.underlying80, rfl, rfl, by kernel_rfl⟩
theorem fa80_2 : FA Tryz.prog 80 2 2 := ⟨_, _, Tryz.underlying80, rfl, rfl, by kernel_rfl⟩
theorem xg7 : FA Tryz.prog 147 0 0 := ⟨_, _, Tryz.underlying147, rfl, rfl, by kernel_rfl⟩
theorem xl1 : FA Tryz.prog 147 1 1 := ⟨_, _, Tryz.underlying147, rfl, rfl, by kernel_rfl⟩
theorem fa147_2 : FA Tryz.prog 147 2 2 := ⟨_, _, Tryz.underlying147, rfl, rfl, by kernel_rfl⟩
theorem xqj : FA Tryz.prog 151 0 0 := ⟨_, _, Tryz.underlying151, rfl, rfl, by kernel_rfl⟩
theorem xqk : FA Tryz.prog 151 1 1 := ⟨_, _, Tryz.underlying151, rfl, rfl, by kernel_rfl⟩
theorem fa151_2 : FA Tryz.prog 151 2 2 := ⟨_, _, Tryz.underlying151, rfl, rfl, by kernel_rfl⟩
theorem xl2 : FA Tryz.prog 163 0 0 := ⟨_, _, Tryz.underlying163, rfl, rfl, by kernel_rfl⟩
theorem xl3 : FA Tryz.prog 166 0 0 := ⟨_, _, Tryz.underlying166, rfl, rfl, by kernel_rfl⟩
theorem xl4 : FA Tryz.prog 166 1 1 := ⟨_, _, Tryz.underlying166, rfl, rfl, by kernel_rfl⟩
theorem xql : FA Tryz.prog 166 2 2 := ⟨_, _, Tryz.underlying166, rfl, rfl, by kernel_rfl⟩
theorem xqm : FA Tryz.prog 213 0 0 := ⟨_, _, Tryz.underlying213, rfl, rfl, by kernel_rfl⟩
theorem fa213_1 : FA Tryz.prog 213 1 1 := ⟨_, _, Tryz.underlying213, rfl, rfl, by kernel_rfl⟩
theorem xl5 : FA Tryz.prog 213 2 2 := ⟨_, _, Tryz.underlying213, rfl, rfl, by kernel_rfl⟩
theorem xqn : FA Tryz.prog 213 3 3 := ⟨_, _, Tryz.underlying213, rfl, rfl, by kernel_rfl⟩
theorem xg8 : FA Tryz.prog 222 0 0 := ⟨_, _, Tryz.underlying222, rfl, rfl, by kernel_rfl⟩
theorem fa222_1 : FA Tryz.prog 222 1 32 := ⟨_, _, Tryz.underlying222, rfl, rfl, by kernel_rfl⟩
theorem xg9 : FA Tryz.prog 222 2 33 := ⟨_, _, Tryz.underlying222, rfl, rfl, by kernel_rfl⟩
theorem fa228_0 : FA Tryz.prog 228 0 0 := ⟨_, _, Tryz.underlying228, rfl, rfl, by kernel_rfl⟩
theorem fa230_0 : FA Tryz.prog 230 0 0 := ⟨_, _, Tryz.underlying230, rfl, rfl, by kernel_rfl⟩
theorem fa230_1 : FA Tryz.prog 230 1 32 := ⟨_, _, Tryz.underlying230, rfl, rfl, by kernel_rfl⟩
theorem xl6 : FA Tryz.prog 230 2 33 := ⟨_, _, Tryz.underlying230, rfl, rfl, by kernel_rfl⟩
theorem xl7 : FA Tryz.prog 230 3 34 := ⟨_, _, Tryz.underlying230, rfl, rfl, by kernel_rfl⟩
theorem fa230_4 : FA Tryz.prog 230 4 66 := ⟨_, _, Tryz.underlying230, rfl, rfl, by kernel_rfl⟩
theorem xqo : FA Tryz.prog 230 6 99 := ⟨_, _, Tryz.underlying230, rfl, rfl, by kernel_rfl⟩
theorem xqp : FA Tryz.prog 230 7 100 := ⟨_, _, Tryz.underlying230, rfl, rfl, by kernel_rfl⟩
theorem xqq : FA Tryz.prog 230 8 101 := ⟨_, _, Tryz.underlying230, rfl, rfl, by kernel_rfl⟩
theorem xqr : FA Tryz.prog 230 9 102 := ⟨_, _, Tryz.underlying230, rfl, rfl, by kernel_rfl⟩
theorem fa246_0 : FA Tryz.prog 246 0 0 := ⟨_, _, Tryz.underlying246, rfl, rfl, by kernel_rfl⟩
theorem xl8 : FA Tryz.prog 246 1 1 := ⟨_, _, Tryz.underlying246, rfl, rfl, by kernel_rfl⟩
theorem xi3 : FA Tryz.prog 246 2 2 := ⟨_, _, Tryz.underlying246, rfl, rfl, by kernel_rfl⟩
theorem xi4 : FA Tryz.prog 246 3 3 := ⟨_, _, Tryz.underlying246, rfl, rfl, by kernel_rfl⟩
theorem xl9 : FA Tryz.prog 256 0 0 := ⟨_, _, Tryz.underlying256, rfl, rfl, by kernel_rfl⟩
theorem fa259_0 : FA Tryz.prog 259 0 0 := ⟨_, _, Tryz.underlying259, rfl, rfl, by kernel_rfl⟩
theorem xqs : FA Tryz.prog 259 1 1 := ⟨_, _, Tryz.underlying259, rfl, rfl, by kernel_rfl⟩
theorem xe9 : FA Tryz.prog 318 0 0 := ⟨_, _, Tryz.underlying318, rfl, rfl, by kernel_rfl⟩
theorem fa318_1 : FA Tryz.prog 318 1 1 := ⟨_, _, Tryz.underlying318, rfl, rfl, by kernel_rfl⟩
theorem xi5 : FA Tryz.prog 318 2 2 := ⟨_, _, Tryz.underlying318, rfl, rfl, by kernel_rfl⟩
theorem xma : FA Tryz.prog 318 3 3 := ⟨_, _, Tryz.underlying318, rfl, rfl, by kernel_rfl⟩
theorem xqt : FA Tryz.prog 340 0 0 := ⟨_, _, Tryz.underlying340, rfl, rfl, by kernel_rfl⟩
theorem xqu : FA Tryz.prog 340 1 103 := ⟨_, _, Tryz.underlying340, rfl, rfl, by kernel_rfl⟩
theorem fa353_0 : FA Tryz.prog 353 0 0 := ⟨_, _, Tryz.underlying353, rfl, rfl, by kernel_rfl⟩
theorem fa353_1 : FA Tryz.prog 353 1 1 := ⟨_, _, Tryz.underlying353, rfl, rfl, by kernel_rfl⟩
theorem sc3 : W1 Tryz.prog 3 := ⟨⟨_, Tryz.underlying3, rfl⟩, by kernel_rfl⟩
theorem sc4 : W1 Tryz.prog 4 := ⟨⟨_, Tryz.underlying4, rfl⟩, by kernel_rfl⟩
theorem sc5 : W1 Tryz.prog 5 := ⟨⟨_, Tryz.underlying5, rfl⟩, by kernel_rfl⟩
theorem sc9 : W1 Tryz.prog 9 := ⟨⟨_, Tryz.underlying9, rfl⟩, by kernel_rfl⟩
theorem ag23 : AT Tryz.prog 23 32 := ⟨⟨_, Tryz.underlying23, rfl⟩, by kernel_rfl⟩
theorem ag24 : AT Tryz.prog 24 32 := ⟨⟨_, Tryz.underlying24, rfl⟩, by kernel_rfl⟩
theorem sc25 : W1 Tryz.prog 25 := ⟨⟨_, Tryz.underlying25, rfl⟩, by kernel_rfl⟩
theorem sc30 : W1 Tryz.prog 30 := ⟨⟨_, Tryz.underlying30, rfl⟩, by kernel_rfl⟩
theorem ag61 : AT Tryz.prog 61 33 := ⟨⟨_, Tryz.underlying61, rfl⟩, by kernel_rfl⟩
theorem sc65 : W1 Tryz.prog 65 := ⟨⟨_, Tryz.underlying65, rfl⟩, by kernel_rfl⟩
theorem sc71 : W1 Tryz.prog 71 := ⟨⟨_, Tryz.underlying71, rfl⟩, by kernel_rfl⟩
theorem sc73 : W1 Tryz.prog 73 := ⟨⟨_, Tryz.underlying73, rfl⟩, by kernel_rfl⟩
theorem sc76 : W1 Tryz.prog 76 := ⟨⟨_, Tryz.underlying76, rfl⟩, by kernel_rfl⟩
theorem ag80 : AT Tryz.prog 80 3 := ⟨⟨_, Tryz.underlying80, rfl⟩, by kernel_rfl⟩
theorem sc85 : W1 Tryz.prog 85 := ⟨⟨_, Tryz.underlying85, rfl⟩, by kernel_rfl⟩
theorem sc161 : W1 Tryz.prog 161 := ⟨⟨_, Tryz.underlying161, rfl⟩, by kernel_rfl⟩
theorem xns : W1 Tryz.prog 164 := ⟨⟨_, Tryz.underlying164, rfl⟩, by kernel_rfl⟩
theorem xjz : AT Tryz.prog 213 4 := ⟨⟨_, Tryz.underlying213, rfl⟩, by kernel_rfl⟩
theorem ag222 : AT Tryz.prog 222 34 := ⟨⟨_, Tryz.underlying222, rfl⟩, by kernel_rfl⟩
theorem xeg : AT Tryz.prog 230 103 := ⟨⟨_, Tryz.underlying230, rfl⟩, by kernel_rfl⟩
theorem ag246 : AT Tryz.prog 246 4 := ⟨⟨_, Tryz.underlying246, rfl⟩, by kernel_rfl⟩
theorem sc252 : W1 Tryz.prog 252 := ⟨⟨_, Tryz.underlying252, rfl⟩, by kernel_rfl⟩
theorem sc257 : W1 Tryz.prog 257 := ⟨⟨_, Tryz.underlying257, rfl⟩, by kernel_rfl⟩
theorem ag281 : AT Tryz.prog 281 0 := ⟨⟨_, Tryz.underlying281, rfl⟩, by kernel_rfl⟩
theorem sc316 : W1 Tryz.prog 316 := ⟨⟨_, Tryz.underlying316, rfl⟩, by kernel_rfl⟩
theorem ag340 : AT Tryz.prog 340 104 := ⟨⟨_, Tryz.underlying340, rfl⟩, by kernel_rfl⟩
theorem sc352 : W1 Tryz.prog 352 := ⟨⟨_, Tryz.underlying352, rfl⟩, by kernel_rfl⟩
theorem xk2 : AT Tryz.prog 353 2 := ⟨⟨_, Tryz.underlying353, rfl⟩, by kernel_rfl⟩
theorem sl25 : ST Tryz.prog 25 5 1 := ⟨Tryz.underlying25, by kernel_rfl⟩
theorem sl29 : ST Tryz.prog 29 23 32 := ⟨Tryz.underlying29, by kernel_rfl⟩
theorem sl50 : ST Tryz.prog 50 25 1 := ⟨Tryz.underlying50, by kernel_rfl⟩
theorem sl55 : ST Tryz.prog 55 61 33 := ⟨Tryz.underlying55, by kernel_rfl⟩
theorem sl64 : ST Tryz.prog 64 73 1 := ⟨Tryz.underlying64, by kernel_rfl⟩
theorem sl71 : ST Tryz.prog 71 3 1 := ⟨Tryz.underlying71, by kernel_rfl⟩
theorem sl73 : ST Tryz.prog 73 80 3 := ⟨Tryz.underlying73, by kernel_rfl⟩
theorem xcd : ST Tryz.prog 220 222 34 := ⟨Tryz.underlying220, by kernel_rfl⟩
theorem sl286 : ST Tryz.prog 286 76 1 := ⟨Tryz.underlying286, by kernel_rfl⟩
theorem xnt : ST Tryz.prog 316 340 104 := ⟨Tryz.underlying316, by kernel_rfl⟩
theorem sl354 : ST Tryz.prog 354 353 2 := ⟨Tryz.underlying354, by kernel_rfl⟩
theorem zr4 : ZA Tryz.prog 4 [.bool false] := ⟨.bool false, by kernel_rfl, rfl⟩
theorem zr23 : ZA Tryz.prog 23 D32.z.c := ⟨.agg D32.z.c.toArray, by kernel_rfl, rfl⟩
theorem zr24 : ZA Tryz.prog 24 D32.z.c := ⟨.agg D32.z.c.toArray, by kernel_rfl, rfl⟩
theorem zr61 : ZA Tryz.prog 61 Par.z.cells := ⟨.agg Par.z.cells.toArray, by kernel_rfl, rfl⟩
theorem zr213 : ZA Tryz.prog 213 [.slice none 0 0, .slice none 0 0, .slice none 0 0, .int .i64 0] := ⟨.agg #[.slice none 0 0, .slice none 0 0, .slice none 0 0, .int .i64 0], by kernel_rfl, rfl⟩
theorem xfg : ZA Tryz.prog 230 Nd.z.cells := ⟨.agg Nd.z.cells.toArray, by kernel_rfl, rfl⟩
theorem zr246 : ZA Tryz.prog 246 Plc.z.cells := ⟨.agg Plc.z.cells.toArray, by kernel_rfl, rfl⟩
theorem zr353 : ZA Tryz.prog 353 [.int .i64 0, .pointer none] := ⟨.agg #[.int .i64 0, .pointer none], by kernel_rfl, rfl⟩
theorem el3 : ET Tryz.prog 3 (.int .i64 0) 1 8 := ⟨by kernel_rfl, by first | rfl | exact D32.cl _ | exact rfl, by omega⟩
theorem el5 : ET Tryz.prog 5 (.int .u8 0) 1 1 := ⟨by kernel_rfl, by first | rfl | exact D32.cl _ | exact rfl, by omega⟩
theorem el23 : ET Tryz.prog 23 (.agg D32.z.c.toArray) 32 32 := ⟨by kernel_rfl, by first | rfl | exact D32.cl _ | exact rfl, by omega⟩
theorem el25 : ET Tryz.prog 25 (.slice none 0 0) 1 24 := ⟨by kernel_rfl, by first | rfl | exact D32.cl _ | exact rfl, by omega⟩
theorem el61 : ET Tryz.prog 61 (.agg Par.z.cells.toArray) 33 56 := ⟨by kernel_rfl, by first | rfl | exact D32.cl _ | exact Par.len _, by omega⟩
theorem el76 : ET Tryz.prog 76 (.nilFunc) 1 8 := ⟨by kernel_rfl, by first | rfl | exact D32.cl _ | exact rfl, by omega⟩
theorem el340 : ET Tryz.prog 340 (.agg Slo.z.cells.toArray) 104 176 := ⟨by kernel_rfl, by first | rfl | exact D32.cl _ | exact Slo.len _, by omega⟩
section
variable {α β : Type} {f : α → List β} {z : Nat}
theorem xcc (hz : ∀ x, (f x).length = z) (l : List α) : (l.flatMap f).length = l.length * z := by
  induction l with
  | nil => simp
  | cons x l ih => rw [List.flatMap_cons, List.length_append, ih, hz, List.length_cons, Nat.succ_mul, Nat.add_comm]
theorem xha (l : List α) (i : Nat) (hi : i < l.length) : l.flatMap f = (l.take i).flatMap f ++ (f l[i] ++ (l.drop (i + 1)).flatMap f) := by
  conv => lhs; rw [← List.take_append_drop i l]
  rw [List.flatMap_append, List.drop_eq_getElem_cons hi, List.flatMap_cons]
theorem xdt (hz : ∀ x, (f x).length = z) (l : List α) (i : Nat) (hi : i ≤ l.length) : ((l.take i).flatMap f).length = i * z := by
  rw [xcc hz, List.length_take, Nat.min_eq_left hi]
theorem xeo (hz : ∀ x, (f x).length = z) (l : List α) (sp : List β) (i : Nat) (hi : i < l.length) : ((l.flatMap f ++ sp).drop (i * z)).take z = f l[i] := by
  have h := get_mid ((l.take i).flatMap f) (f l[i]) ((l.drop (i + 1)).flatMap f ++ sp) z (hz _); rw [xdt hz l i (by omega)] at h; rw [xha l i hi, List.append_assoc, List.append_assoc]; exact h
theorem fm_get (hz : ∀ x, (f x).length = z) (l : List α) (sp : List β) (i j : Nat) (hi : i < l.length) (hj : j < z) : (l.flatMap f ++ sp)[i * z + j]? = (f l[i])[j]? := by
  rw [← xeo hz l sp i hi, List.getElem?_take_of_lt hj, List.getElem?_drop]
theorem fm_sub (hz : ∀ x, (f x).length = z) (l : List α) (sp : List β) (i k m : Nat) (hi : i < l.length) (hk : k + m ≤ z) : ((l.flatMap f ++ sp).drop (i * z + k)).take m = ((f l[i]).drop k).take m := by
  rw [← xeo hz l sp i hi, List.drop_take, List.drop_drop, List.take_take, Nat.min_eq_left (by omega)]
theorem xd8 (hz : ∀ x, (f x).length = z) (l : List α) (sp : List β) (i : Nat) (y : α) (hi : i < l.length) : splice (l.flatMap f ++ sp) (i * z) (f y) = (l.set i y).flatMap f ++ sp := by
  have h := xbi ((l.take i).flatMap f) (f l[i]) ((l.drop (i + 1)).flatMap f ++ sp) (f y) (by rw [hz, hz]); rw [xdt hz l i (by omega)] at h; have e1 : l.flatMap f ++ sp = (l.take i).flatMap f ++ (f l[i] ++ ((l.drop (i + 1)).flatMap f ++ sp)) := by rw [xha l i hi, List.append_assoc, List.append_assoc]
  have e2 : (l.set i y).flatMap f ++ sp = (l.take i).flatMap f ++ (f y ++ ((l.drop (i + 1)).flatMap f ++ sp)) := by
    rw [List.set_eq_take_append_cons_drop, if_pos hi, List.flatMap_append, List.flatMap_cons, List.append_assoc, List.append_assoc]
  rw [e1, h, e2]
theorem xkm (hz : ∀ x, (f x).length = z) (l : List α) (sp : List β) (i k : Nat) (vs : List β) (y : α) (hi : i < l.length) (hk : k + vs.length ≤ z) (hy : splice (f l[i]) k vs = f y) : splice (l.flatMap f ++ sp) (i * z + k) vs = (l.set i y).flatMap f ++ sp := by
  have hl := xdt hz l i (by omega); have e1 : l.flatMap f ++ sp = (l.take i).flatMap f ++ (f l[i] ++ ((l.drop (i + 1)).flatMap f ++ sp)) := by rw [xha l i hi, List.append_assoc, List.append_assoc]
  have e2 : (l.set i y).flatMap f ++ sp = (l.take i).flatMap f ++ (f y ++ ((l.drop (i + 1)).flatMap f ++ sp)) := by
    rw [List.set_eq_take_append_cons_drop, if_pos hi, List.flatMap_append, List.flatMap_cons, List.append_assoc, List.append_assoc]
  rw [e1, e2, ← hy]; have hfl : (f l[i]).length = z := hz _; unfold splice; rw [List.take_append, List.drop_append, hl]; have t1 : i * z + k - i * z = k := by omega
  have t2 : i * z + k + vs.length - i * z = k + vs.length := by omega
  have d1 : List.take (i * z + k) ((l.take i).flatMap f) = (l.take i).flatMap f := List.take_of_length_le (by omega); have d2 : List.drop (i * z + k + vs.length) ((l.take i).flatMap f) = [] := List.drop_of_length_le (by omega); rw [t1, t2, d1, d2, List.nil_append, List.take_append_of_le_length (by omega), List.drop_append_of_le_length (by omega)]; simp only [qo]
theorem fm_set (hz : ∀ x, (f x).length = z) (l : List α) (sp : List β) (i k : Nat) (v : β) (y : α) (hi : i < l.length) (hk : k < z) (hy : (f l[i]).set k v = f y) : (l.flatMap f ++ sp).set (i * z + k) v = (l.set i y).flatMap f ++ sp := by
  have hl := xdt hz l i (by omega); have e1 : l.flatMap f ++ sp = (l.take i).flatMap f ++ (f l[i] ++ ((l.drop (i + 1)).flatMap f ++ sp)) := by rw [xha l i hi, List.append_assoc, List.append_assoc]
  have e2 : (l.set i y).flatMap f ++ sp = (l.take i).flatMap f ++ (f y ++ ((l.drop (i + 1)).flatMap f ++ sp)) := by
    rw [List.set_eq_take_append_cons_drop, if_pos hi, List.flatMap_append, List.flatMap_cons, List.append_assoc, List.append_assoc]
  have hfl : (f l[i]).length = z := hz _; rw [e1, e2, ← hy, List.set_append, if_neg (by omega), hl, List.set_append, if_pos (by omega)]; congr 3; omega
end
structure En where
  nd : Nd
  count : Int
  val : List UInt8
def En.cells (e : En) : List Value := (e.nd.slo e.count).cells
theorem En.len (e : En) : e.cells.length = 104 := Slo.len _
theorem En.cells_eq (e : En) : e.cells = e.nd.cells ++ [.int .i64 e.count] := Nd.slo_cells _ _
theorem En.g_count (e : En) : e.cells[103]? = some (.int .i64 e.count) := Slo.g_count _
theorem En.g_nd (e : En) : (e.cells.drop 0).take 103 = e.nd.cells := by
  rw [En.cells_eq, List.drop_zero, List.take_left' (Nd.len _)]
structure Sb where
  slots : List En
  free : List Nat
  room : Nat
  used : Nat
structure Sb.Ok (σ : Sb) : Prop where
  r1 : 1 ≤ σ.room
  r2 : σ.room ≤ 65536
  fit : σ.used + σ.free.length = σ.slots.length
  few : σ.slots.length ≤ σ.room
  fr : ∀ n ∈ σ.free, 1 ≤ n ∧ n ≤ σ.slots.length
def rowS (σ : Sb) : List Value := σ.slots.flatMap En.cells
def rowF (σ : Sb) : List Value := σ.free.map fun n : Nat => .int .i64 (n : Int)
def SbS (g : Nat) (vs vf : Sv) : Nat → Prop := fun k => k = g ∨ vs.v.ownBlock = some k ∨ vf.v.ownBlock = some k
structure SbP (D : Nat → Prop) (w : World) (g : Nat) (σ : Sb) (vs vf : Sv) : Prop where
  blk : Blk w g 318 [vs.v, vf.v, .int .i64 (σ.room : Int), .int .i64 (σ.used : Int)]
  slots : w.ownsRow 0 340 104 vs.v σ.slots.length (rowS σ)
  free : w.ownsRow 0 3 1 vf.v σ.free.length (rowF σ)
  ok : σ.Ok
  own : ∀ k, SbS g vs vf k → D k
  lt : ∀ k, D k → k < w.heap.size
  vals : ∀ e ∈ σ.slots, Lft (SbS g vs vf) w e.nd.vs.A e.nd.vs.n e.nd.vs.c e.val ∧ ∀ ad, e.nd.vs.A = some ad → D ad.block
theorem xba {w w' : World} {base e z n : Nat} {v : Value} {xs : List Value} (h : w.ownsRow base e z v n xs) (hk : ∀ k, v.ownBlock = some k → w'.heap[k]? = w.heap[k]?) : w'.ownsRow base e z v n xs := by
  obtain ⟨hl, h⟩ := h; rcases h with ⟨rfl, rfl⟩ | ⟨g, cap, cur, rfl, hg, hh, hn, hm, hs, ht⟩
  · exact ⟨hl, .inl ⟨rfl, rfl⟩⟩
  · exact ⟨hl, .inr ⟨g, cap, cur, rfl, hg, by rw [hk g rfl]; exact hh, hn, hm, hs, ht⟩⟩
theorem xfo {w : World} {base e z n : Nat} {v : Sv} {xs : List Value} (h : w.ownsRow base e z v.v n xs) (hn : 0 < n) : ∃ G sp, v = ⟨some ⟨G, 0, none⟩, n, v.c⟩ ∧ v.v.ownBlock = some G ∧ Blk w G e (xs ++ sp) ∧ n ≤ v.c ∧ v.c ≤ maxLen ∧ (xs ++ sp).length = v.c * z := by
  obtain ⟨hl, h⟩ := h; rcases h with ⟨h1, h2⟩ | ⟨g, cap, cur, h1, hg, hh, hn', hm, hs, ht⟩
  · omega
  · obtain ⟨A, m, c⟩ := v
    unfold Sv.v at h1; simp only [Value.slice.injEq] at h1; obtain ⟨rfl, rfl, rfl⟩ := h1; have e0 : xs ++ cur.toList.drop (m * z) = cur.toList := by rw [← ht, List.take_append_drop]
    refine ⟨g, cur.toList.drop (m * z), rfl, rfl, ?_, hn', hm, ?_⟩
    · unfold Blk; rw [e0]; exact hh
    · rw [e0]; simpa using hs
section
variable {D : Nat → Prop} {w w' : World} {g : Nat} {σ : Sb} {vs vf : Sv}
theorem SbP.D_g (h : SbP D w g σ vs vf) : D g := h.own g (.inl rfl)
theorem SbP.fr (h : SbP D w g σ vs vf) {T : Nat → Prop} (hf : Fr T w w') (hT : ∀ k, D k → ¬ T k) : SbP D w' g σ vs vf :=
  ⟨h.blk.fr hf (hT g h.D_g), xba h.slots (fun k hk => hf.block k (h.lt k (h.own k (.inr (.inl hk)))) (hT k (h.own k (.inr (.inl hk))))),
   xba h.free (fun k hk => hf.block k (h.lt k (h.own k (.inr (.inr hk)))) (hT k (h.own k (.inr (.inr hk))))), h.ok, h.own, fun k hk => Nat.lt_of_lt_of_le (h.lt k hk) hf.size,
   fun e he => by
    obtain ⟨h1, h2⟩ := h.vals e he
    exact ⟨⟨h1.len, h1.cap, h1.max, h1.rd.fr hf (fun ad e t => hT _ (h2 ad e) t), h1.far⟩, h2⟩⟩
theorem SbP.below (h : SbP D w g σ vs vf) (hb : Below w.heap.size w w') : SbP D w' g σ vs vf := h.fr (T := fun _ => False) (Fr.of_below hb) (fun _ _ f => f)
theorem SbP.c2 (h : SbP D w g σ vs vf) : w.cell? ⟨g, 2, none⟩ = some (.int .i64 (σ.room : Int)) := by rw [h.blk.cell]; rfl
theorem SbP.c3 (h : SbP D w g σ vs vf) : w.cell? ⟨g, 3, none⟩ = some (.int .i64 (σ.used : Int)) := by rw [h.blk.cell]; rfl
theorem SbP.c0 (h : SbP D w g σ vs vf) : w.cell? ⟨g, 0, none⟩ = some vs.v := by rw [h.blk.cell]; rfl
theorem SbP.vfn (h : SbP D w g σ vs vf) : vf.n = σ.free.length := by
  obtain ⟨A, c, e, _⟩ := xjc h.free; unfold Sv.v at e; simp only [Value.slice.injEq] at e; exact e.2.1
theorem xfa (h : SbP D w g σ vs vf) : Calls Tryz.prog 213 #[.pointer (some ⟨g, 0, none⟩)] w fun e w' => e = .returned (.bool false) ∧ w = w' := by
  have hc := h.c2; have hr : ((σ.room : Int) == 0) = false := by have := h.ok.r1; simp; omega
  have HL := Loc.start w; clear h; go_enter Tryz.func213, Tryz.ntmps213; go_upto_region 0 with fail; refine X1j ?_; go_upto_region 1 with fail; refine X1q ?_; refine xad rfl _ (xaf xi5 _ rfl _ rfl) ?_; refine X1r ?_; refine X5 ?_; refine X1v ?_; go_wp2_with fail; go_ret; exact ⟨rfl, rfl⟩
theorem sb_len (h : SbP D w g σ vs vf) : Calls Tryz.prog 156 #[.pointer (some ⟨g, 0, none⟩)] w fun e w' => e = .returned (.int .i64 (σ.used : Int)) ∧ w = w' := by
  have hc := h.c3; have HL := Loc.start w; go_enter Tryz.func156, Tryz.ntmps156; go_upto_region 0 with fail; refine X1j ?_; go_upto_region 1 with fail; refine X1z ?_; intro K hK; (with_reducible refine (xfa h).mono ?_); rintro e w ⟨rfl, rfl⟩; refine X22 ?_; clear hK K; go_upto_region 3 with fail; refine X13 ?_; refine X23 ?_; refine X5 ?_; refine X24 ?_; refine X19 ?_; go_wp2_with fail; go_ret; exact ⟨rfl, rfl⟩
theorem sb_room (h : SbP D w g σ vs vf) : Calls Tryz.prog 206 #[.pointer (some ⟨g, 0, none⟩)] w fun e w' => e = .returned (.int .i64 (σ.room : Int)) ∧ w = w' := by
  have hc := h.c2; have HL := Loc.start w; go_enter Tryz.func206, Tryz.ntmps206; go_upto_region 0 with fail; refine X1j ?_; go_upto_region 1 with fail; refine X1z ?_; intro K hK; (with_reducible refine (xfa h).mono ?_); rintro e w ⟨rfl, rfl⟩; refine X22 ?_; clear hK K; go_upto_region 3 with fail; refine X13 ?_; refine xaa rfl _ (xaf xi5 _ rfl _ rfl) ?_; refine X5 ?_; refine X24 ?_; refine X19 ?_; go_wp2_with fail; go_ret; exact ⟨rfl, rfl⟩
theorem SbP.slot (h : SbP D w g σ vs vf) (i : Nat) (hi : i < σ.slots.length) : ∃ G sp, vs = ⟨some ⟨G, 0, none⟩, σ.slots.length, vs.c⟩ ∧ D G ∧ SbS g vs vf G ∧ Blk w G 340 (rowS σ ++ sp) ∧ σ.slots.length ≤ vs.c ∧ vs.c ≤ maxLen := by
  obtain ⟨G, sp, e, ho, hb, h1, h2, h3⟩ := xfo h.slots (by omega); exact ⟨G, sp, e, h.own G (.inr (.inl ho)), .inr (.inl ho), hb, h1, h2⟩
theorem xf3 (i : Nat) (hi : i < σ.slots.length) (sp : List Value) : (rowS σ ++ sp)[i * 104 + 103]? = some (.int .i64 σ.slots[i].count) := by
  unfold rowS; rw [fm_get En.len _ _ i 103 hi (by omega), En.g_count]
theorem row_nd (i : Nat) (hi : i < σ.slots.length) (sp : List Value) : ((rowS σ ++ sp).drop (i * 104)).take 103 = σ.slots[i].nd.cells := by
  unfold rowS; have h := fm_sub En.len σ.slots sp i 0 103 hi (by omega); rw [Nat.add_zero] at h; rw [h, En.g_nd]
theorem xk3 (h : SbP D w g σ vs vf) (n : Int) (i : Nat) (hn : n = (i : Int) + 1) (hi : i < σ.slots.length) (hc : σ.slots[i].count ≠ 0) :
    Calls Tryz.prog 231 #[.pointer (some ⟨g, 0, none⟩), .int .i64 n] w fun e w' => ∃ G, vs.A = some ⟨G, 0, none⟩ ∧ e = .returned (.pointer (some ⟨G, i * 104, none⟩)) ∧ w = w' := by
  obtain ⟨G, sp, he, hD, hS, hb, hcap, hmx⟩ := h.slot i hi; have hc0 := h.c0; have hr1 := h.ok.few; have hr2 := h.ok.r2; have hcell : w.cell? ⟨G, i * 104 + 103, none⟩ = some (.int .i64 σ.slots[i].count) := by rw [hb.cell, xf3 i hi sp]
  have k1 : decide (n < 1) = false := by simp; omega
  have k2 : decide ((σ.slots.length : Int) < n) = false := by simp; omega
  have k3 : (σ.slots[i].count == 0) = false := by simpa using hc
  have HN := hZ hn; have hni : Hid (n - 1 = (i : Int)) := hZ (by omega); have HA : Hid (vs.A = some ⟨G, 0, none⟩) := hZ (by rw [he]); generalize σ.slots[i].count = ct at *; rw [he] at hc0; have hlen : σ.slots.length ≤ 65536 := by omega
  refine X25 ?_; intro C HL; clear he hb hn hr1 hr2; generalize σ.slots.length = m at *; go_enter Tryz.func231, Tryz.ntmps231; go_upto_region 0 with fail; refine X1j ?_; go_upto_region 1 with fail; refine X1z ?_; intro K hK; (with_reducible refine ((C _).out h).mono ?_); rintro e w ⟨rfl, rfl⟩; refine X20 ?_; clear hK K; refine X26 ?_; refine X1s ?_; refine X27 ?_; refine X1m ?_; refine X1p ?_; refine xad rfl _ (xaf xe9 _ rfl _ rfl) ?_; refine X28 ?_; refine X5 ?_; refine xad rfl _ (xcs Tryz.underlying316 _ rfl _ _ _ rfl) ?_; refine X5 ?_; refine X1s ?_; refine X27 ?_; refine X1p ?_; refine xad rfl _ (xaf xe9 _ rfl _ rfl) ?_; refine X28 ?_; refine X5 ?_; refine X1m ?_; refine xad rfl _ (xa7 _ _ rfl _ _ (i : Int) rfl rfl hni.out (by omega)) ?_; refine X5 ?_
  refine xad rfl _ (xbc xnt _ _ rfl G _ _ i _ rfl rfl hi) ?_; refine X5 ?_; refine xad rfl _ (xg4 xqu _ rfl _ _ rfl) ?_; refine X1r ?_; refine X2c ?_; go_upto_region 3 with fail; refine X13 ?_; refine xaa rfl _ (xaf xe9 _ rfl _ rfl) ?_; refine X5 ?_; refine xaa rfl _ (xdb sc316 HL _ rfl _ rfl _ (by with_reducible assumption)) ?_; refine X14 ?_; refine xaa rfl _ (xa7 _ _ rfl _ _ (i : Int) rfl rfl hni.out (by omega)) ?_; refine X5 ?_; refine xaa rfl _ (xbc xnt _ _ rfl G _ _ i _ rfl rfl hi) ?_; refine X19 ?_; go_wp2_with fail; go_ret; exact ⟨G, HA.out, rfl, rfl⟩
theorem sb_at_no (h : SbP D w g σ vs vf) (n : Int) (hn : n < 1) :
    Calls Tryz.prog 231 #[.pointer (some ⟨g, 0, none⟩), .int .i64 n] w fun e w' => e = .returned (.pointer none) ∧ w = w' := by
  have k1 : decide (n < 1) = true := by simp; omega
  refine X25 ?_; intro C HL; go_enter Tryz.func231, Tryz.ntmps231; go_upto_region 0 with fail; refine X1j ?_; go_upto_region 1 with fail; refine X1z ?_; intro K hK; (with_reducible refine ((C _).out h).mono ?_); rintro e w ⟨rfl, rfl⟩; refine X20 ?_; clear hK K; refine X26 ?_; refine X1s ?_; refine X2d ?_; refine no_implicit_lambda% (X2g ?_); refine no_implicit_lambda% (X2f ?_); refine no_implicit_lambda% (X2e ?_); refine X1l ?_; refine no_implicit_lambda% (X2g ?_); refine no_implicit_lambda% (X2g ?_); refine no_implicit_lambda% (X2f ?_); refine X29 ?_; go_upto_region 2 with fail; refine X1j ?_; go_wp2_with fail; go_ret; exact ⟨rfl, rfl⟩
theorem xpg (h : SbP D w g σ vs vf) (n : Int) (i : Nat) (hn : n = (i : Int) + 1) (hi : i < σ.slots.length) (hc : σ.slots[i].count ≠ 0) :
    Calls Tryz.prog 192 #[.pointer (some ⟨g, 0, none⟩), .int .i64 n] w fun e w' => e = .returned (.tuple #[.agg σ.slots[i].nd.cells.toArray, .int .i64 0]) ∧ Below w.heap.size w w' := by
  obtain ⟨G, sp, he, hD, hS, hb, hcap, hmx⟩ := h.slot i hi; have hgn := row_nd i hi sp; have HA : vs.A = some ⟨G, 0, none⟩ := by rw [he]
  have HH := hZ (And.intro h (And.intro hn hc)); have hO : Old w G := h.lt G hD; clear h he hn hc; have HL := Loc.start w; go_enter Tryz.func192, Tryz.ntmps192; go_upto_region 0 with fail; refine Xs ?_; refine X2h ?_; clear HL; intro g4 w HL; go_upto_region 1 with fail; refine Xs ?_; refine X2i ?_; clear HL; intro g6 w HL; refine X21 ?_; go_upto_region 2 with fail; refine X1z ?_; intro K hK; refine X2j ?_; rintro e w ⟨rfl, rfl⟩; refine X22 ?_; clear hK K; go_upto_region 4 with fail; refine X2k ?_; intro K hK; refine X2l ?_; refine X1y ?_; refine X2m ?_; rintro e w ⟨G', hG, rfl, rfl⟩; obtain rfl : G' = G := by rw [HA] at hG; cases hG; rfl
  refine X2n ?_; clear hK K; go_upto_region 5 with fail; refine X2o ?_; go_upto_region 7 with fail; refine X13 ?_; refine xaa rfl _ (xg4 xqt _ rfl _ _ rfl) ?_; refine X5 ?_; refine xaa rfl _ (xf1 xeg HL _ rfl _ _ rfl _ _ _ hO hb hgn (Nd.len _)) ?_; refine X2p ?_; refine X2q ?_; clear HL; intro w HL; refine Xz ?_; go_wp2_with fail; refine Xa ?_; refine X2r ?_; exact ⟨rfl, HL.below⟩
theorem xsg (h : SbP D w g σ vs vf) (n : Int) (hn : n < 1) :
    Calls Tryz.prog 192 #[.pointer (some ⟨g, 0, none⟩), .int .i64 n] w fun e w' => e = .returned (.tuple #[.agg Nd.z.cells.toArray, .int .i64 7]) ∧ Below w.heap.size w w' := by
  have HL := Loc.start w; go_enter Tryz.func192, Tryz.ntmps192; go_upto_region 0 with fail; refine Xs ?_; refine X2h ?_; clear HL; intro g4 w HL; go_upto_region 1 with fail; refine Xs ?_; refine X2i ?_; clear HL; intro g6 w HL; refine X21 ?_; go_upto_region 2 with fail; refine X1z ?_; intro K hK; (with_reducible refine (xfa (h.below HL.below)).mono ?_); rintro e w ⟨rfl, rfl⟩; refine X22 ?_; clear hK K; go_upto_region 4 with fail; refine X2k ?_; intro K hK; refine X2l ?_; refine X1y ?_; (with_reducible refine (sb_at_no (h.below HL.below) n hn).mono ?_); rintro e w ⟨rfl, rfl⟩; refine X2n ?_; clear hK K; go_upto_region 5 with fail; refine X2o ?_; go_upto_region 6 with fail; refine Xs ?_; refine X2s ?_; refine X2p ?_; refine X2q ?_; clear HL; intro w HL; refine Xz ?_; go_wp2_with fail; refine Xa ?_; refine X2r ?_; exact ⟨rfl, HL.below⟩
end
end Go.Proofs.YtkjjdgnkelchfaaGreat
