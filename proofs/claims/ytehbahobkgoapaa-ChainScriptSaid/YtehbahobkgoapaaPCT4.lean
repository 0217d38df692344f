import Derived.Deep.Slices
import Derived.Lib.SmallJoins
import Derived.Test.YtehbahobkgoapaaPCT3
namespace Go.Proofs.Ytehbahobkgoapaa
open Go Go.RowKit
set_option linter.unusedSimpArgs false
set_option linter.unusedVariables false
/-- The document's log in the block G; S: the blocks that are its own. -/
structure LrP (S : Nat → Prop) (w : World) (G : Nat) (rs : List (List UInt8)) (v : Value) : Prop where
  blk : Blk w G 152 [v]
  r : w.ownsRow 0 25 32 v rs.length (bvs rs.flatten)
  rS : ∀ k, v.ownBlock = some k → S k
  gS : S G
  lt : ∀ k, S k → k < w.heap.size
  each : ∀ l ∈ rs, l.length = 32
  few : rs.length ≤ 4096
def Lr (S : Nat → Prop) (w : World) (G : Nat) (rs : List (List UInt8)) : Prop := ∃ v, LrP S w G rs v
theorem Lr.fr {S T : Nat → Prop} {w w' : World} {G : Nat} {rs : List (List UInt8)} (h : Lr S w G rs) (hf : Fr T w w') (hd : ∀ k, S k → ¬ T k) : Lr S w' G rs := by
  obtain ⟨v, p⟩ := h
  exact ⟨v, p.blk.fr hf (hd _ p.gS), ownsRow_fr p.r hf (fun k e => hd k (p.rS k e)), p.rS, p.gS, fun k hk => Nat.lt_of_lt_of_le (p.lt k hk) hf.size, p.each, p.few⟩
theorem Lr.below {S : Nat → Prop} {w w' : World} {G : Nat} {rs : List (List UInt8)} (h : Lr S w G rs) (hb : Below w.heap.size w w') : Lr S w' G rs :=
  h.fr (T := fun _ => False) (Fr.of_below hb) (fun _ _ f => f)
/-- Such a log as it is read. -/
structure Lrv (S : Nat → Prop) (w : World) (G : Nat) (rs : List (List UInt8)) (A : Option Addr) (c : Nat) : Prop where
  own : ∀ ad, A = some ad → S ad.block
  blk : Blk w G 152 [.slice A rs.length c]
  r : Hl w A rs.length c rs
  few : rs.length ≤ 4096
theorem Lr.view {S : Nat → Prop} {w : World} {G : Nat} {rs : List (List UInt8)} (h : Lr S w G rs) : ∃ A c, Lrv S w G rs A c := by
  obtain ⟨v, p⟩ := h
  obtain ⟨A, c, rfl, h1⟩ := own_hl p.r rfl p.each
  exact ⟨A, c, fun ad e => p.rS _ (by rw [e]; rfl), p.blk, h1, p.few⟩
theorem lr_cell {w : World} {g : Nat} {u : Value} (h : Blk w g 152 [u]) : w.cell? ⟨g, 0, none⟩ = some u := by rw [h.cell]; rfl
theorem exec_r0 {w : World} {a : Act} {o : Oper} (x : Operand) (ho : o.op = .fieldAddr 152 x 0) (g : Nat) (hx : a.eval x = .pointer (some ⟨g, 0, none⟩)) : (execOp a.eval o).run Try.prog w = .ok (.value (.pointer (some ⟨g, 0, none⟩))) w := by
  unfold execOp
  simp only [ho, hx]
  go_simp
theorem cut_own {S : Nat → Prop} {A : Option Addr} (h : ∀ ad, A = some ad → S ad.block) (c l z : Nat) : ∀ ad, cutA A c l z = some ad → S ad.block := by
  intro ad e
  unfold cutA at e
  split at e
  · exact h ad e
  · cases A with
    | none => cases e
    | some a =>
      have e' := Option.some.inj e
      rw [← e']
      have hb : (a.add (l * z)).block = a.block := by unfold Addr.add; split <;> rfl
      rw [hb]
      exact h a rfl
theorem row_ne2 {w : World} {g n base e z : Nat} {v : Value} {xs cs : List Value} (h : w.ownsRow base e z v n xs) (hb : Blk w g 152 cs) (he : e ≠ 152) : ∀ k, v.ownBlock = some k → k ≠ g := by
  intro k hk
  obtain ⟨_, ds, hd⟩ := ownsRow_blk h hk
  exact hd.ne hb he
theorem radd_done {S : Nat → Prop} {w w7 w8 : World} {g gr cr : Nat} {rs : List (List UInt8)} {v : Value} {r : List UInt8} (p : LrP S w g rs v) (lr : r.length = 32) (hf : rs.length < 4096)
    (hb : Below w.heap.size w w7) (hg : w7.grownBy w8 v.ownBlock) (ho : w8.ownsRow 0 25 32 (.slice (some ⟨gr, 0, none⟩) (rs.length + 1) cr) (rs.length + 1) (bvs (rs ++ [r]).flatten)) (hat : v.ownBlock = some gr ∨ gr = w7.heap.size) (hlt : gr < w8.heap.size) :
    Lr (fun k => S k ∨ (w.heap.size ≤ k ∧ k < (w8.setCell ⟨g, 0, none⟩ (.slice (some ⟨gr, 0, none⟩) (rs.length + 1) cr)).heap.size)) (w8.setCell ⟨g, 0, none⟩ (.slice (some ⟨gr, 0, none⟩) (rs.length + 1) cr)) g (rs ++ [r]) ∧ Fr S w (w8.setCell ⟨g, 0, none⟩ (.slice (some ⟨gr, 0, none⟩) (rs.length + 1) cr)) := by
  have hner : ∀ k, v.ownBlock = some k → k ≠ g := row_ne2 p.r p.blk (by decide)
  have hs7 := hb.size
  have hs8 := hg.size
  have p7 := p.blk.below hb p.blk.lt
  have p8 : Blk w8 g 152 [v] := p7.grown hg (fun e => hner g e.symm rfl)
  have hgrS : S gr ∨ w.heap.size ≤ gr := by
    rcases hat with e | e
    · exact .inl (p.rS _ e)
    · exact .inr (by omega)
  have hgr : gr ≠ g := by
    obtain ⟨_, ds, hd⟩ := ownsRow_blk (g := gr) ho rfl
    exact hd.ne p8 (by decide)
  have hset : Fr (· = g) w8 (w8.setCell ⟨g, 0, none⟩ (.slice (some ⟨gr, 0, none⟩) (rs.length + 1) cr)) := Fr.setCell (p := ⟨g, 0, none⟩) (Fr.refl (· = g) w8) (.inl rfl) _
  have hsz : (w8.setCell ⟨g, 0, none⟩ (.slice (some ⟨gr, 0, none⟩) (rs.length + 1) cr)).heap.size = w8.heap.size := by simp [World.setCell]
  have hfr : Fr S w (w8.setCell ⟨g, 0, none⟩ (.slice (some ⟨gr, 0, none⟩) (rs.length + 1) cr)) := Fr.setCell (p := ⟨g, 0, none⟩) ((Fr.of_below hb).grown hg (fun k e => .inl (p.rS k e))) (.inl p.gS) _
  refine ⟨⟨_, by simpa using p8.set_ 0 (.slice (some ⟨gr, 0, none⟩) (rs.length + 1) cr), ?_, ?_, .inl p.gS, ?_, ?_, ?_⟩, hfr⟩
  · simpa using ownsRow_fr ho hset (fun k e => by cases e; exact hgr)
  · intro k hk; cases hk
    rcases hgrS with h | h
    · exact .inl h
    · exact .inr ⟨h, by rw [hsz]; exact hlt⟩
  · intro k hk
    rcases hk with hk | hk
    · have := p.lt k hk; rw [hsz]; omega
    · exact hk.2
  · intro l hl
    rcases List.mem_append.1 hl with h | h
    · exact p.each l h
    · simp at h; subst h; exact lr
  · simp; omega
set_option maxRecDepth 100000 in
set_option maxHeartbeats 1000000 in
theorem radd_any {S : Nat → Prop} (g : Nat) (rs : List (List UInt8)) (r : List UInt8) (w : World) (h : Lr S w g rs) (lr : r.length = 32) (hf : rs.length < 4096) :
    Calls Try.prog 149 #[.pointer (some ⟨g, 0, none⟩), arr8 r] w fun e w' => ∃ S', e = .returned (.tuple #[.int .i64 ((rs.length : Int) + 1), .int .i64 0]) ∧ Lr S' w' g (rs ++ [r]) ∧ (∀ k, S' k → S k ∨ w.heap.size ≤ k) ∧ Fr S w w' := by
  obtain ⟨v, p⟩ := h
  have hbr : Blk (w.alloc (.cells (bvs r).toArray 25)) w.heap.size 25 (bvs r) := Blk.new _ _ _
  have hw0 : Below w.heap.size w (w.alloc (.cells (bvs r).toArray 25)) := (Below.refl _ _).alloc (Nat.le_refl _) _
  have p0 := p.blk.below hw0 p.blk.lt
  have hr0 := ownsRow_below p.r hw0
  obtain ⟨RA, rc, rfl, hl2⟩ := own_hl hr0 rfl p.each
  have LR := Lib.hid lr
  have DONE := fun (w7 w8 : World) (gr cr : Nat) a1 a2 a3 a4 a5 => radd_done (w7 := w7) (w8 := w8) (gr := gr) (cr := cr) p lr hf a1 a2 a3 a4 a5
  have NRG : ∀ {k : Nat}, (Value.slice RA rs.length rc).ownBlock = some k → k ≠ g := fun {k} => row_ne2 p.r p.blk (by decide) k
  have NRZ : (Value.slice RA rs.length rc).ownBlock ≠ some w.heap.size := fun e => by have := p.lt _ (p.rS _ e); omega
  have hgne : w.heap.size ≠ g := by have := p.blk.lt; omega
  generalize hnd : rs.length = n at *
  have hge : ¬ (4096 : Int) ≤ (n : Int) := by omega
  unfold arr8 at *
  have hall := And.intro hbr (And.intro hw0 (And.intro p0 hr0))
  clear hbr hw0 p0 hr0 hl2 hf
  go_enter Try.func149, Try.ntmps149
  go_upto_region 1 with fail
  generalize hW : World.alloc w _ = w0
  have hall : Blk w0 w.heap.size 25 (bvs r) ∧ Below w.heap.size w w0 ∧ Blk w0 g 152 [.slice RA n rc] ∧ w0.ownsRow 0 25 32 (.slice RA n rc) n (bvs rs.flatten) := by rw [← hW]; exact hall
  clear hW
  obtain ⟨hbr, hw0, p0, hr0⟩ := hall
  refine wp_region_lit ?_
  refine wpList_yield rfl _ (exec_move _ rfl) ?_
  simp only [Act.put, Act.eval, Array.getD_eq_getD_getElem?, List.getElem?_toArray, List.getElem?_cons_succ, List.getElem?_cons_zero, Option.getD_some, List.setIfInBounds_toArray, List.set_cons_zero, List.set_cons_succ]
  refine wpList_yield rfl _ (exec_nilck _ rfl _ rfl) ?_
  simp only [Act.put, List.setIfInBounds_toArray, List.set_cons_zero, List.set_cons_succ]
  refine wpList_yield rfl _ (exec_r0 _ rfl g rfl) ?_
  simp only [Act.put, List.setIfInBounds_toArray, List.set_cons_zero, List.set_cons_succ]
  refine wpList_yield rfl _ (exec_load132 _ rfl _ _ rfl (lr_cell p0)) ?_
  simp only [Act.put, List.setIfInBounds_toArray, List.set_cons_zero, List.set_cons_succ]
  refine wpList_yield rfl _ (exec_len132 _ rfl RA n rc rfl) ?_
  simp only [Act.put, List.setIfInBounds_toArray, List.set_cons_zero, List.set_cons_succ]
  refine wpList_yield rfl ?vp1_5 ?yp1_5 ?_
  case yp1_5 => go_simp; try with_reducible rfl
  simp only [Act.put, List.setIfInBounds_toArray, List.set_cons_zero, List.set_cons_succ]
  refine wpList_nil ?_
  go_upto_region 3 with fail
  generalize hgz : w.heap.size = gz at *
  refine rg_begin (fun W => Blk W g 152 [.slice RA n rc] ∧ Blk W gz 25 (bvs r)) [10] [6, 7, 8, 9, 10] [0, 1, 2, 3, 4, 5, 6, 7, 8, 9, 10] 0 mixed (by kernel_rfl) (fun _ _ _ _ e hh => ⟨e.symm.trans hh.1, hh.2⟩) ?_
  simp only [pick, List.map_cons, List.map_nil, List.getD_cons_zero, List.getD_cons_succ]
  have hS : (fun W => Blk W g 152 [.slice RA n rc] ∧ Blk W gz 25 (bvs r)) _ := ⟨p0.drew, hbr.drew⟩
  refine rg_take (v := ?v2_0) rfl rfl hS ?y2_0 ?_
  case y2_0 => intro W hW; (try subst hW); go_simp; try with_reducible rfl
  simp only [Act.put, List.setIfInBounds_toArray, List.set_cons_zero, List.set_cons_succ]
  refine rg_take (v := ?v2_1) rfl rfl hS ?y2_1 ?_
  case y2_1 => intro W hW; (try subst hW); go_simp; try with_reducible rfl
  simp only [Act.put, List.setIfInBounds_toArray, List.set_cons_zero, List.set_cons_succ]
  refine rg_take rfl rfl hS (fun W hW => exec_nilck _ rfl _ rfl) ?_
  simp only [Act.put, List.setIfInBounds_toArray, List.set_cons_zero, List.set_cons_succ]
  refine rg_take rfl rfl hS (fun W hW => exec_r0 _ rfl g rfl) ?_
  simp only [Act.put, List.setIfInBounds_toArray, List.set_cons_zero, List.set_cons_succ]
  refine rg_take rfl rfl hS (fun W hW => exec_load132 _ rfl _ _ rfl (lr_cell hW.1)) ?_
  simp only [Act.put, List.setIfInBounds_toArray, List.set_cons_zero, List.set_cons_succ]
  refine rg_take rfl rfl hS (fun W hW => exec_load_agg at25w (.tmp 3) rfl gz 25 (bvs r) rfl hW.2 (by rw [bvs_length]; exact LR.out)) ?_
  simp only [Act.put, List.setIfInBounds_toArray, List.set_cons_zero, List.set_cons_succ]
  refine rg_one rfl rfl ?_; intro K hK
  refine wp_build_dig1 r LR.out _ rfl rfl ?_
  have hS7 := And.intro (hS.1.alloc (.cells (bvs r).toArray 25)) (hS.2.alloc (.cells (bvs r).toArray 25))
  have hx7 : Blk (w0.drew.alloc (.cells (bvs r).toArray 25)) w0.drew.heap.size 25 (bvs r) := Blk.new _ _ _
  have hB7 : Below w0.heap.size w0 (w0.drew.alloc (.cells (bvs r).toArray 25)) := (Below.refl w0.heap.size w0).drew.alloc (Nat.le_refl _) _
  refine hK _ _ (fun _ => hS7) ?_; clear hK
  generalize World.alloc w0.drew _ = w7 at *
  generalize w0.drew.heap.size = gy2 at *
  refine rg_one rfl rfl ?_; intro K hK
  refine wp_append_dig (.tmp 16) (.tmp 18) rfl (.slice RA n rc) n rs rfl (ownsRow_below hr0 hB7) ⟨gy2, 0, none⟩ rfl r LR.out (Rd.of_blk0 (es := []) (by simpa using hx7)) (by omega) w7.heap.size rfl ?_
  intro gr cr w8 ho8 hg8 hat8 hlt8
  have hS8 := And.intro (hS7.1.grown hg8 (fun e => NRG (by rw [← e]) rfl)) (hS7.2.grown hg8 (fun e => NRZ (by rw [← e])))
  refine hK _ _ (fun _ => hS8) ?_; clear hK
  refine rg_one rfl rfl ?_; intro K hK
  refine wp_pure (exec_nilck _ rfl _ rfl) ?_
  refine hK _ _ (fun _ => hS8) ?_; clear hK
  simp only [Act.put, List.setIfInBounds_toArray, List.set_cons_zero, List.set_cons_succ]
  refine rg_one rfl rfl ?_; intro K hK
  refine wp_pure (exec_r0 _ rfl g rfl) ?_
  refine hK _ _ (fun _ => hS8) ?_; clear hK
  simp only [Act.put, List.setIfInBounds_toArray, List.set_cons_zero, List.set_cons_succ]
  refine rg_one rfl rfl ?_; intro K hK
  refine wp_store_one one132 _ _ rfl g 0 152 _ (.slice (some ⟨gr, 0, none⟩) (n + 1) cr) rfl rfl rfl hS8.1 (by simp) ?_
  refine hK _ _ (fun h => by cases h) ?_; clear hK
  refine rg_done (by kernel_rfl) ?_
  have hgw : gz ≤ w0.heap.size := by rw [← hgz]; exact hw0.size
  have D := DONE w7 w8 gr cr (hw0.trans (hB7.mono hgw)) hg8 ho8 hat8 hlt8
  have h9 := Lib.hid D
  have hb9 := hS8.1.set_ 0 (.slice (some ⟨gr, 0, none⟩) (n + 1) cr)
  clear DONE D hS hS7 hS8 hx7 hB7 hg8 ho8 hat8 hlt8 p0 hr0 hbr
  generalize World.setCell w8 _ _ = w9 at *
  have hcl := Lib.hid (lr_cell hb9)
  clear hb9
  go_upto_region 4 with fail
  refine wp_region_lit ?_
  refine wpList_yield rfl _ (exec_move _ rfl) ?_
  simp only [Act.put, Act.eval, Array.getD_eq_getD_getElem?, List.getElem?_toArray, List.getElem?_cons_succ, List.getElem?_cons_zero, Option.getD_some, List.setIfInBounds_toArray, List.set_cons_zero, List.set_cons_succ]
  refine wpList_yield rfl _ (exec_nilck _ rfl _ rfl) ?_
  simp only [Act.put, List.setIfInBounds_toArray, List.set_cons_zero, List.set_cons_succ]
  refine wpList_yield rfl _ (exec_r0 _ rfl g rfl) ?_
  simp only [Act.put, List.setIfInBounds_toArray, List.set_cons_zero, List.set_cons_succ]
  refine wpList_yield rfl _ (exec_load132 _ rfl _ _ rfl hcl.out) ?_
  simp only [Act.put, List.setIfInBounds_toArray, List.set_cons_zero, List.set_cons_succ]
  refine wpList_yield rfl _ (exec_len132 _ rfl (some ⟨gr, 0, none⟩) (n + 1) cr rfl) ?_
  simp only [Act.put, List.setIfInBounds_toArray, List.set_cons_zero, List.set_cons_succ]
  refine wpList_yield rfl _ (exec_assign _ rfl) ?_
  simp only [Act.put, Act.eval, Array.getD_eq_getD_getElem?, List.getElem?_toArray, List.getElem?_cons_succ, List.getElem?_cons_zero, Option.getD_some, List.setIfInBounds_toArray, List.set_cons_zero, List.set_cons_succ]
  refine wpList_yield rfl _ (exec_assign _ rfl) ?_
  simp only [Act.put, Act.eval, Array.getD_eq_getD_getElem?, List.getElem?_toArray, List.getElem?_cons_succ, List.getElem?_cons_zero, Option.getD_some, List.setIfInBounds_toArray, List.set_cons_zero, List.set_cons_succ]
  refine wpList_nil ?_
  go_wp2_with fail
  go_ret2
  exact ⟨rfl, _, h9.out.1, fun k hk => hk.elim .inl (fun h => .inr h.1), h9.out.2⟩
set_option maxRecDepth 100000 in
set_option maxHeartbeats 1000000 in
theorem rhead_in {S : Nat → Prop} (g : Nat) (rs : List (List UInt8)) (w : World) (h : Lr S w g rs) (i : Nat) (hi : i ≤ rs.length) : Calls Try.prog 150 #[.pointer (some ⟨g, 0, none⟩), .int .i64 (i : Int)] w fun e w' => e = .returned (.tuple #[arr8 (foldH firstH (rs.take i)), .int .i64 0]) ∧ Below w.heap.size w w' := by
  have hbz : Blk (w.alloc (.cells (bvs (zb 32)).toArray 25)) w.heap.size 25 (bvs (zb 32)) := Blk.new _ _ _
  have hw0 : Below w.heap.size w (w.alloc (.cells (bvs (zb 32)).toArray 25)) := (Below.refl _ _).alloc (Nat.le_refl _) _
  obtain ⟨A, c, v⟩ := h.view
  have hcl := Lib.hid (lr_cell v.blk)
  have HL := v.r
  have C1 := fun u => Lib.hid (crfirst_any u)
  rw [show shaL [4] = firstH from rfl] at C1
  have HFL : Hid (firstH.length = 32) := Lib.hid firstH_length
  have HNL := HL.len
  rw [HNL] at hi
  have C2 := fun (u : World) (x : Hl u A rs.length c rs) => Lib.hid (rfold_any firstH A i c (rs.take i) u firstH_length (x.to i hi))
  have HRL : Hid ((foldH firstH (rs.take i)).length = 32) := Lib.hid (foldH_len _)
  generalize foldH firstH (rs.take i) = res at *
  have hcap := HL.cap
  generalize rs.length = n at *
  generalize firstH = FH at *
  have hz1 : ¬ (i : Int) < 0 := by omega
  have hz2 : ¬ (n : Int) < (i : Int) := by omega
  unfold arr8 at *
  have hall := And.intro hbz hw0
  clear hbz hw0 v h
  go_enter Try.func150, Try.ntmps150
  go_upto_region 1 with fail
  generalize hW : World.alloc w _ = w0
  have hall : Blk w0 w.heap.size 25 (bvs (zb 32)) ∧ Below w.heap.size w w0 := by rw [← hW]; exact hall
  clear hW
  obtain ⟨hbz, hw0⟩ := hall
  refine wp_region_lit ?_
  refine wpList_yield rfl _ (exec_move _ rfl) ?_
  simp only [Act.put, Act.eval, Array.getD_eq_getD_getElem?, List.getElem?_toArray, List.getElem?_cons_succ, List.getElem?_cons_zero, Option.getD_some, List.setIfInBounds_toArray, List.set_cons_zero, List.set_cons_succ]
  refine wpList_yield rfl ?vp3_1 ?yp3_1 ?_
  case yp3_1 => go_simp; try with_reducible rfl
  simp only [Act.put, List.setIfInBounds_toArray, List.set_cons_zero, List.set_cons_succ]
  refine wpList_yield rfl _ (exec_move _ rfl) ?_
  simp only [Act.put, Act.eval, Array.getD_eq_getD_getElem?, List.getElem?_toArray, List.getElem?_cons_succ, List.getElem?_cons_zero, Option.getD_some, List.setIfInBounds_toArray, List.set_cons_zero, List.set_cons_succ]
  refine wpList_yield_w rfl _ (exec_move _ rfl) ?_
  simp only [Act.put, Act.eval, Array.getD_eq_getD_getElem?, List.getElem?_toArray, List.getElem?_cons_succ, List.getElem?_cons_zero, Option.getD_some, List.setIfInBounds_toArray, List.set_cons_zero, List.set_cons_succ]
  refine wpList_yield_w rfl _ (exec_move _ rfl) ?_
  simp only [Act.put, Act.eval, Array.getD_eq_getD_getElem?, List.getElem?_toArray, List.getElem?_cons_succ, List.getElem?_cons_zero, Option.getD_some, List.setIfInBounds_toArray, List.set_cons_zero, List.set_cons_succ]
  refine wpList_yield_w rfl _ (exec_nilck _ rfl _ rfl) ?_
  simp only [Act.put, List.setIfInBounds_toArray, List.set_cons_zero, List.set_cons_succ]
  refine wpList_yield_w rfl _ (exec_r0 _ rfl g rfl) ?_
  simp only [Act.put, List.setIfInBounds_toArray, List.set_cons_zero, List.set_cons_succ]
  refine wpList_yield_w rfl _ (exec_load132 _ rfl _ _ rfl (cell_below hw0 hcl.out)) ?_
  simp only [Act.put, List.setIfInBounds_toArray, List.set_cons_zero, List.set_cons_succ]
  refine wpList_yield_w rfl _ (exec_len132 _ rfl A n c rfl) ?_
  simp only [Act.put, List.setIfInBounds_toArray, List.set_cons_zero, List.set_cons_succ]
  refine wpList_yield_w rfl ?vp4_9 ?yp4_9 ?_
  case yp4_9 => go_simp; try with_reducible rfl
  simp only [Act.put, List.setIfInBounds_toArray, List.set_cons_zero, List.set_cons_succ]
  refine wpList_yield rfl ?vp5_10 ?yp5_10 ?_
  case yp5_10 => go_simp; try with_reducible rfl
  simp only [Act.put, List.setIfInBounds_toArray, List.set_cons_zero, List.set_cons_succ]
  refine wpList_nil ?_
  go_upto_region 3 with fail
  refine rg_begin (Below w.heap.size w) [] [0, 7, 8] [1, 2, 3, 4, 5, 6, 0, 7, 8, 9] 0 mixed (by kernel_rfl) (fun _ _ _ _ e hh => ⟨e.symm.trans hh.1, hh.2⟩) ?_
  simp only [pick, List.map_cons, List.map_nil, List.getD_cons_zero, List.getD_cons_succ]
  have hS : (Below w.heap.size w) _ := hw0.drew
  refine rg_take (v := ?v6_1) rfl rfl hS ?y6_1 ?_
  case y6_1 => intro W hW; (try subst hW); go_simp; try with_reducible rfl
  simp only [Act.put, List.setIfInBounds_toArray, List.set_cons_zero, List.set_cons_succ]
  refine rg_take rfl rfl hS (fun W hW => exec_nilck _ rfl _ rfl) ?_
  simp only [Act.put, List.setIfInBounds_toArray, List.set_cons_zero, List.set_cons_succ]
  refine rg_take rfl rfl hS (fun W hW => exec_r0 _ rfl g rfl) ?_
  simp only [Act.put, List.setIfInBounds_toArray, List.set_cons_zero, List.set_cons_succ]
  refine rg_take rfl rfl hS (fun W hW => exec_load132 _ rfl _ _ rfl (cell_below hW hcl.out)) ?_
  simp only [Act.put, List.setIfInBounds_toArray, List.set_cons_zero, List.set_cons_succ]
  refine rg_take (v := ?v6_5) rfl rfl hS ?y6_5 ?_
  case y6_5 => intro W hW; (try subst hW); go_simp; try with_reducible rfl
  simp only [Act.put, List.setIfInBounds_toArray, List.set_cons_zero, List.set_cons_succ]
  refine rg_take rfl rfl hS (fun W hW => exec_slice_to st132 _ _ rfl A n c i .i64 rfl rfl (by omega)) ?_
  simp only [Act.put, List.setIfInBounds_toArray, List.set_cons_zero, List.set_cons_succ]
  refine rg_one rfl rfl ?_; intro K hK; go_simp
  with_reducible refine (C1 _).out.mono ?_
  rintro e1 w1 ⟨rfl, hw1⟩
  have hS1 : Below w.heap.size w w1 := Below.trans hS (hw1.mono (Below.size hS))
  have hbz1 := hbz.drew.below hw1 hbz.drew.lt
  refine hK _ _ (fun _ => hS1) ?_; clear hK
  refine rg_one rfl rfl ?_; intro K hK; go_simp
  with_reducible refine (C2 _ (HL.below hS1)).out.mono ?_
  rintro e1 w2 ⟨rfl, hw2⟩
  have hS2 : Below w.heap.size w w2 := Below.trans hS1 (hw2.mono (Below.size hS1))
  have hbz2 := hbz1.below hw2 hbz1.lt
  refine hK _ _ (fun _ => hS2) ?_; clear hK
  refine rg_one rfl rfl ?_; intro K hK
  refine wp_store_at at25w.i (.tmp 4) (.tmp 25) rfl w.heap.size 0 25 (bvs (zb 32)) (bvs res) rfl rfl hbz2 (by rw [bvs_length]; exact HRL.out) (by rw [bvs_length, zb_length]; omega) (bvs_one _) ?_
  intro w4 hb4 hg4 hs4
  have hB4 : Below w.heap.size w w4 := Below.grown hS2 hg4 (Below.size hS2) (by intro k hk; cases hk; omega)
  refine hK _ _ (fun _ => hB4) ?_; clear hK
  refine rg_take (v := ?v6_9) rfl rfl hB4 ?y6_9 ?_
  case y6_9 => intro W hW; (try subst hW); go_simp; try with_reducible rfl
  simp only [Act.put, List.setIfInBounds_toArray, List.set_cons_zero, List.set_cons_succ]
  refine rg_done (by kernel_rfl) ?_
  go_wp2_with fail
  (try simp only [Exit.inBlock, Exit.then])
  rw [splice_all _ _ (by rw [bvs_length, bvs_length, zb_length]; exact HRL.out.symm)] at hb4
  refine bodyPost_ret (ret_cell_tmp rfl at25w _ _ w.heap.size 25 (bvs res) rfl hb4 (by rw [bvs_length]; exact HRL.out)) rfl ?_
  exact ⟨rfl, hB4⟩
set_option maxRecDepth 100000 in
set_option maxHeartbeats 1000000 in
theorem rhead_out {S : Nat → Prop} (g : Nat) (rs : List (List UInt8)) (w : World) (h : Lr S w g rs) (z : Int) (hz : z < 0 ∨ (rs.length : Int) < z) : Calls Try.prog 150 #[.pointer (some ⟨g, 0, none⟩), .int .i64 z] w fun e w' => e = .returned (.tuple #[arr8 (zb 32), .int .i64 7]) ∧ Below w.heap.size w w' := by
  have hbz : Blk (w.alloc (.cells (bvs (zb 32)).toArray 25)) w.heap.size 25 (bvs (zb 32)) := Blk.new _ _ _
  have hw0 : Below w.heap.size w (w.alloc (.cells (bvs (zb 32)).toArray 25)) := (Below.refl _ _).alloc (Nat.le_refl _) _
  obtain ⟨A, c, v⟩ := h.view
  have hcl := Lib.hid (lr_cell v.blk)
  have HL := v.r
  have HRL : Hid ((zb 32).length = 32) := Lib.hid (zb_length 32)
  generalize rs.length = n at *
  unfold arr8 at *
  have hall := And.intro hbz hw0
  clear hbz hw0 HL v h
  by_cases hz1 : z < 0
  · have hq0 : decide (z < 0) = true := by simp; omega
    clear hz hz1
    go_enter Try.func150, Try.ntmps150
    go_upto_region 1 with fail
    generalize hW : World.alloc w _ = w0
    have hall : Blk w0 w.heap.size 25 (bvs (zb 32)) ∧ Below w.heap.size w w0 := by rw [← hW]; exact hall
    clear hW
    obtain ⟨hbz, hw0⟩ := hall
    refine wp_region_lit ?_
    refine wpList_yield rfl _ (exec_move _ rfl) ?_
    simp only [Act.put, Act.eval, Array.getD_eq_getD_getElem?, List.getElem?_toArray, List.getElem?_cons_succ, List.getElem?_cons_zero, Option.getD_some, List.setIfInBounds_toArray, List.set_cons_zero, List.set_cons_succ]
    refine wpList_yield rfl ?vp7_1 ?yp7_1 ?_
    case yp7_1 => go_simp; try with_reducible rfl
    simp only [Act.put, List.setIfInBounds_toArray, List.set_cons_zero, List.set_cons_succ]
    refine wpList_yield rfl _ (exec_move _ rfl) ?_
    simp only [Act.put, Act.eval, Array.getD_eq_getD_getElem?, List.getElem?_toArray, List.getElem?_cons_succ, List.getElem?_cons_zero, Option.getD_some, List.setIfInBounds_toArray, List.set_cons_zero, List.set_cons_succ]
    refine no_implicit_lambda% (wpList_skip_w ?k8_3 ?_)
    case k8_3 => rfl
    simp only [Act.put, List.setIfInBounds_toArray, List.set_cons_zero, List.set_cons_succ]
    refine no_implicit_lambda% (wpList_skip_w ?k9_4 ?_)
    case k9_4 => rfl
    simp only [Act.put, List.setIfInBounds_toArray, List.set_cons_zero, List.set_cons_succ]
    refine no_implicit_lambda% (wpList_skip_w ?k10_5 ?_)
    case k10_5 => rfl
    simp only [Act.put, List.setIfInBounds_toArray, List.set_cons_zero, List.set_cons_succ]
    refine no_implicit_lambda% (wpList_skip_w ?k11_6 ?_)
    case k11_6 => rfl
    simp only [Act.put, List.setIfInBounds_toArray, List.set_cons_zero, List.set_cons_succ]
    refine no_implicit_lambda% (wpList_skip_w ?k12_7 ?_)
    case k12_7 => rfl
    simp only [Act.put, List.setIfInBounds_toArray, List.set_cons_zero, List.set_cons_succ]
    refine no_implicit_lambda% (wpList_skip_w ?k13_8 ?_)
    case k13_8 => rfl
    simp only [Act.put, List.setIfInBounds_toArray, List.set_cons_zero, List.set_cons_succ]
    refine no_implicit_lambda% (wpList_skip_w ?k14_9 ?_)
    case k14_9 => rfl
    simp only [Act.put, List.setIfInBounds_toArray, List.set_cons_zero, List.set_cons_succ]
    refine wpList_yield rfl ?vp15_10 ?yp15_10 ?_
    case yp15_10 => go_simp; try with_reducible rfl
    simp only [Act.put, List.setIfInBounds_toArray, List.set_cons_zero, List.set_cons_succ]
    refine wpList_nil ?_
    go_upto_region 2 with fail
    refine wp_region_lit ?_
    refine wpList_yield rfl _ (exec_build _ rfl (bvs (zb 32)).toArray (by kernel_rfl)) ?_
    simp only [Act.put, List.setIfInBounds_toArray, List.set_cons_zero, List.set_cons_succ]
    refine wpList_store_at at25w.i rfl (.tmp 4) (.tmp 17) rfl w.heap.size 0 25 (bvs (zb 32)) (bvs (zb 32)) rfl rfl hbz (by rw [bvs_length]; exact HRL.out) (by rw [bvs_length, zb_length]; omega) (bvs_one _) ?_
    intro w4 hb4 hg4 hs4
    (try simp only [Act.put, List.setIfInBounds_toArray, List.set_cons_zero, List.set_cons_succ])
    refine wpList_yield rfl _ (exec_assign _ rfl) ?_
    simp only [Act.put, Act.eval, Array.getD_eq_getD_getElem?, List.getElem?_toArray, List.getElem?_cons_succ, List.getElem?_cons_zero, Option.getD_some, List.setIfInBounds_toArray, List.set_cons_zero, List.set_cons_succ]
    refine wpList_nil ?_
    go_wp2_with fail
    (try simp only [Exit.inBlock, Exit.then])
    rw [splice_all _ _ (by rfl)] at hb4
    refine bodyPost_ret (ret_cell_tmp rfl at25w _ _ w.heap.size 25 (bvs (zb 32)) rfl hb4 (by rw [bvs_length]; exact HRL.out)) rfl ?_
    exact ⟨rfl, hw0.grown hg4 hw0.size (by intro k hk; cases hk; omega)⟩
  · have hz2 : (n : Int) < z := by omega
    have hq1 : decide (z < 0) = false := by simp; omega
    have hq2 : decide ((n : Int) < z) = true := by simp; omega
    clear hz hz1 hz2
    go_enter Try.func150, Try.ntmps150
    go_upto_region 1 with fail
    generalize hW : World.alloc w _ = w0
    have hall : Blk w0 w.heap.size 25 (bvs (zb 32)) ∧ Below w.heap.size w w0 := by rw [← hW]; exact hall
    clear hW
    obtain ⟨hbz, hw0⟩ := hall
    refine wp_region_lit ?_
    refine wpList_yield rfl _ (exec_move _ rfl) ?_
    simp only [Act.put, Act.eval, Array.getD_eq_getD_getElem?, List.getElem?_toArray, List.getElem?_cons_succ, List.getElem?_cons_zero, Option.getD_some, List.setIfInBounds_toArray, List.set_cons_zero, List.set_cons_succ]
    refine wpList_yield rfl ?vp16_1 ?yp16_1 ?_
    case yp16_1 => go_simp; try with_reducible rfl
    simp only [Act.put, List.setIfInBounds_toArray, List.set_cons_zero, List.set_cons_succ]
    refine wpList_yield rfl _ (exec_move _ rfl) ?_
    simp only [Act.put, Act.eval, Array.getD_eq_getD_getElem?, List.getElem?_toArray, List.getElem?_cons_succ, List.getElem?_cons_zero, Option.getD_some, List.setIfInBounds_toArray, List.set_cons_zero, List.set_cons_succ]
    refine wpList_yield_w rfl _ (exec_move _ rfl) ?_
    simp only [Act.put, Act.eval, Array.getD_eq_getD_getElem?, List.getElem?_toArray, List.getElem?_cons_succ, List.getElem?_cons_zero, Option.getD_some, List.setIfInBounds_toArray, List.set_cons_zero, List.set_cons_succ]
    refine wpList_yield_w rfl _ (exec_move _ rfl) ?_
    simp only [Act.put, Act.eval, Array.getD_eq_getD_getElem?, List.getElem?_toArray, List.getElem?_cons_succ, List.getElem?_cons_zero, Option.getD_some, List.setIfInBounds_toArray, List.set_cons_zero, List.set_cons_succ]
    refine wpList_yield_w rfl _ (exec_nilck _ rfl _ rfl) ?_
    simp only [Act.put, List.setIfInBounds_toArray, List.set_cons_zero, List.set_cons_succ]
    refine wpList_yield_w rfl _ (exec_r0 _ rfl g rfl) ?_
    simp only [Act.put, List.setIfInBounds_toArray, List.set_cons_zero, List.set_cons_succ]
    refine wpList_yield_w rfl _ (exec_load132 _ rfl _ _ rfl (cell_below hw0 hcl.out)) ?_
    simp only [Act.put, List.setIfInBounds_toArray, List.set_cons_zero, List.set_cons_succ]
    refine wpList_yield_w rfl _ (exec_len132 _ rfl A n c rfl) ?_
    simp only [Act.put, List.setIfInBounds_toArray, List.set_cons_zero, List.set_cons_succ]
    refine wpList_yield_w rfl ?vp17_9 ?yp17_9 ?_
    case yp17_9 => go_simp; try with_reducible rfl
    simp only [Act.put, List.setIfInBounds_toArray, List.set_cons_zero, List.set_cons_succ]
    refine wpList_yield rfl ?vp18_10 ?yp18_10 ?_
    case yp18_10 => go_simp; try with_reducible rfl
    simp only [Act.put, List.setIfInBounds_toArray, List.set_cons_zero, List.set_cons_succ]
    refine wpList_nil ?_
    go_upto_region 2 with fail
    refine wp_region_lit ?_
    refine wpList_yield rfl _ (exec_build _ rfl (bvs (zb 32)).toArray (by kernel_rfl)) ?_
    simp only [Act.put, List.setIfInBounds_toArray, List.set_cons_zero, List.set_cons_succ]
    refine wpList_store_at at25w.i rfl (.tmp 4) (.tmp 17) rfl w.heap.size 0 25 (bvs (zb 32)) (bvs (zb 32)) rfl rfl hbz (by rw [bvs_length]; exact HRL.out) (by rw [bvs_length, zb_length]; omega) (bvs_one _) ?_
    intro w4 hb4 hg4 hs4
    (try simp only [Act.put, List.setIfInBounds_toArray, List.set_cons_zero, List.set_cons_succ])
    refine wpList_yield rfl _ (exec_assign _ rfl) ?_
    simp only [Act.put, Act.eval, Array.getD_eq_getD_getElem?, List.getElem?_toArray, List.getElem?_cons_succ, List.getElem?_cons_zero, Option.getD_some, List.setIfInBounds_toArray, List.set_cons_zero, List.set_cons_succ]
    refine wpList_nil ?_
    go_wp2_with fail
    (try simp only [Exit.inBlock, Exit.then])
    rw [splice_all _ _ (by rfl)] at hb4
    refine bodyPost_ret (ret_cell_tmp rfl at25w _ _ w.heap.size 25 (bvs (zb 32)) rfl hb4 (by rw [bvs_length]; exact HRL.out)) rfl ?_
    exact ⟨rfl, hw0.grown hg4 hw0.size (by intro k hk; cases hk; omega)⟩
set_option maxRecDepth 100000 in
set_option maxHeartbeats 1000000 in
theorem rat_in {S : Nat → Prop} (g : Nat) (rs : List (List UInt8)) (w : World) (h : Lr S w g rs) (i : Nat) (hi : i < rs.length) : Calls Try.prog 151 #[.pointer (some ⟨g, 0, none⟩), .int .i64 (i : Int)] w fun e w' => e = .returned (.tuple #[arr8 (rs.getD i []), .int .i64 0]) ∧ Below w.heap.size w w' := by
  have hbz : Blk (w.alloc (.cells (bvs (zb 32)).toArray 25)) w.heap.size 25 (bvs (zb 32)) := Blk.new _ _ _
  have hw0 : Below w.heap.size w (w.alloc (.cells (bvs (zb 32)).toArray 25)) := (Below.refl _ _).alloc (Nat.le_refl _) _
  obtain ⟨A, c, v⟩ := h.view
  have hcl := Lib.hid (lr_cell v.blk)
  have HL := v.r
  obtain ⟨ad, rfl, hrd, h32⟩ := HL.at i hi
  have HRL := Lib.hid h32
  clear h32
  generalize rs.getD i [] = res at *
  generalize rs.length = n at *
  have hz1 : ¬ (i : Int) < 0 := by omega
  have hz2 : ¬ (n : Int) ≤ (i : Int) := by omega
  unfold arr8 at *
  have hall := And.intro hbz hw0
  clear hbz hw0 v h
  go_enter Try.func151, Try.ntmps151
  go_upto_region 1 with fail
  generalize hW : World.alloc w _ = w0
  have hall : Blk w0 w.heap.size 25 (bvs (zb 32)) ∧ Below w.heap.size w w0 := by rw [← hW]; exact hall
  clear hW
  obtain ⟨hbz, hw0⟩ := hall
  refine wp_region_lit ?_
  refine wpList_yield rfl _ (exec_move _ rfl) ?_
  simp only [Act.put, Act.eval, Array.getD_eq_getD_getElem?, List.getElem?_toArray, List.getElem?_cons_succ, List.getElem?_cons_zero, Option.getD_some, List.setIfInBounds_toArray, List.set_cons_zero, List.set_cons_succ]
  refine wpList_yield rfl ?vp19_1 ?yp19_1 ?_
  case yp19_1 => go_simp; try with_reducible rfl
  simp only [Act.put, List.setIfInBounds_toArray, List.set_cons_zero, List.set_cons_succ]
  refine wpList_yield rfl _ (exec_move _ rfl) ?_
  simp only [Act.put, Act.eval, Array.getD_eq_getD_getElem?, List.getElem?_toArray, List.getElem?_cons_succ, List.getElem?_cons_zero, Option.getD_some, List.setIfInBounds_toArray, List.set_cons_zero, List.set_cons_succ]
  refine wpList_yield_w rfl _ (exec_move _ rfl) ?_
  simp only [Act.put, Act.eval, Array.getD_eq_getD_getElem?, List.getElem?_toArray, List.getElem?_cons_succ, List.getElem?_cons_zero, Option.getD_some, List.setIfInBounds_toArray, List.set_cons_zero, List.set_cons_succ]
  refine wpList_yield_w rfl _ (exec_move _ rfl) ?_
  simp only [Act.put, Act.eval, Array.getD_eq_getD_getElem?, List.getElem?_toArray, List.getElem?_cons_succ, List.getElem?_cons_zero, Option.getD_some, List.setIfInBounds_toArray, List.set_cons_zero, List.set_cons_succ]
  refine wpList_yield_w rfl _ (exec_nilck _ rfl _ rfl) ?_
  simp only [Act.put, List.setIfInBounds_toArray, List.set_cons_zero, List.set_cons_succ]
  refine wpList_yield_w rfl _ (exec_r0 _ rfl g rfl) ?_
  simp only [Act.put, List.setIfInBounds_toArray, List.set_cons_zero, List.set_cons_succ]
  refine wpList_yield_w rfl _ (exec_load132 _ rfl _ _ rfl (cell_below hw0 hcl.out)) ?_
  simp only [Act.put, List.setIfInBounds_toArray, List.set_cons_zero, List.set_cons_succ]
  refine wpList_yield_w rfl _ (exec_len132 _ rfl (some ad) n c rfl) ?_
  simp only [Act.put, List.setIfInBounds_toArray, List.set_cons_zero, List.set_cons_succ]
  refine wpList_yield_w rfl ?vp20_9 ?yp20_9 ?_
  case yp20_9 => go_simp; try with_reducible rfl
  simp only [Act.put, List.setIfInBounds_toArray, List.set_cons_zero, List.set_cons_succ]
  refine wpList_yield rfl ?vp21_10 ?yp21_10 ?_
  case yp21_10 => go_simp; try with_reducible rfl
  simp only [Act.put, List.setIfInBounds_toArray, List.set_cons_zero, List.set_cons_succ]
  refine wpList_nil ?_
  go_upto_region 3 with fail
  refine wp_region_lit ?_
  refine wpList_yield rfl _ (exec_move _ rfl) ?_
  simp only [Act.put, Act.eval, Array.getD_eq_getD_getElem?, List.getElem?_toArray, List.getElem?_cons_succ, List.getElem?_cons_zero, Option.getD_some, List.setIfInBounds_toArray, List.set_cons_zero, List.set_cons_succ]
  refine wpList_yield rfl _ (exec_nilck _ rfl _ rfl) ?_
  simp only [Act.put, List.setIfInBounds_toArray, List.set_cons_zero, List.set_cons_succ]
  refine wpList_yield rfl _ (exec_r0 _ rfl g rfl) ?_
  simp only [Act.put, List.setIfInBounds_toArray, List.set_cons_zero, List.set_cons_succ]
  refine wpList_yield rfl _ (exec_load132 _ rfl _ _ rfl (cell_below hw0 hcl.out)) ?_
  simp only [Act.put, List.setIfInBounds_toArray, List.set_cons_zero, List.set_cons_succ]
  refine wpList_yield rfl _ (exec_move _ rfl) ?_
  simp only [Act.put, Act.eval, Array.getD_eq_getD_getElem?, List.getElem?_toArray, List.getElem?_cons_succ, List.getElem?_cons_zero, Option.getD_some, List.setIfInBounds_toArray, List.set_cons_zero, List.set_cons_succ]
  refine wpList_yield rfl _ (exec_siaz Try.underlying132 sz25 _ _ rfl ad n c i _ rfl rfl (by omega)) ?_
  simp only [Act.put, List.setIfInBounds_toArray, List.set_cons_zero, List.set_cons_succ]
  refine wpList_yield rfl _ (exec_load_rd at25w _ rfl _ (bvs res) rfl (hrd.below hw0) (by omega) (by rw [bvs_length]; exact HRL.out)) ?_
  simp only [Act.put, List.setIfInBounds_toArray, List.set_cons_zero, List.set_cons_succ]
  refine wpList_store_at at25w.i rfl (.tmp 4) (.tmp 24) rfl w.heap.size 0 25 (bvs (zb 32)) (bvs res) rfl rfl hbz (by rw [bvs_length]; exact HRL.out) (by rw [bvs_length, zb_length]; omega) (bvs_one _) ?_
  intro w4 hb4 hg4 hs4
  (try simp only [Act.put, List.setIfInBounds_toArray, List.set_cons_zero, List.set_cons_succ])
  refine wpList_yield rfl _ (exec_assign _ rfl) ?_
  simp only [Act.put, Act.eval, Array.getD_eq_getD_getElem?, List.getElem?_toArray, List.getElem?_cons_succ, List.getElem?_cons_zero, Option.getD_some, List.setIfInBounds_toArray, List.set_cons_zero, List.set_cons_succ]
  refine wpList_nil ?_
  have hB4 : Below w.heap.size w w4 := hw0.grown hg4 hw0.size (by intro k hk; cases hk; omega)
  go_wp2_with fail
  (try simp only [Exit.inBlock, Exit.then])
  rw [splice_all _ _ (by rw [bvs_length, bvs_length, zb_length]; exact HRL.out.symm)] at hb4
  refine bodyPost_ret (ret_cell_tmp rfl at25w _ _ w.heap.size 25 (bvs res) rfl hb4 (by rw [bvs_length]; exact HRL.out)) rfl ?_
  exact ⟨rfl, hB4⟩
set_option maxRecDepth 100000 in
set_option maxHeartbeats 1000000 in
theorem rat_out {S : Nat → Prop} (g : Nat) (rs : List (List UInt8)) (w : World) (h : Lr S w g rs) (z : Int) (hz : z < 0 ∨ (rs.length : Int) ≤ z) : Calls Try.prog 151 #[.pointer (some ⟨g, 0, none⟩), .int .i64 z] w fun e w' => e = .returned (.tuple #[arr8 (zb 32), .int .i64 7]) ∧ Below w.heap.size w w' := by
  have hbz : Blk (w.alloc (.cells (bvs (zb 32)).toArray 25)) w.heap.size 25 (bvs (zb 32)) := Blk.new _ _ _
  have hw0 : Below w.heap.size w (w.alloc (.cells (bvs (zb 32)).toArray 25)) := (Below.refl _ _).alloc (Nat.le_refl _) _
  obtain ⟨A, c, v⟩ := h.view
  have hcl := Lib.hid (lr_cell v.blk)
  have HL := v.r
  have HRL : Hid ((zb 32).length = 32) := Lib.hid (zb_length 32)
  generalize rs.length = n at *
  unfold arr8 at *
  have hall := And.intro hbz hw0
  clear hbz hw0 HL v h
  by_cases hz1 : z < 0
  · have hq0 : decide (z < 0) = true := by simp; omega
    clear hz hz1
    go_enter Try.func151, Try.ntmps151
    go_upto_region 1 with fail
    generalize hW : World.alloc w _ = w0
    have hall : Blk w0 w.heap.size 25 (bvs (zb 32)) ∧ Below w.heap.size w w0 := by rw [← hW]; exact hall
    clear hW
    obtain ⟨hbz, hw0⟩ := hall
    refine wp_region_lit ?_
    refine wpList_yield rfl _ (exec_move _ rfl) ?_
    simp only [Act.put, Act.eval, Array.getD_eq_getD_getElem?, List.getElem?_toArray, List.getElem?_cons_succ, List.getElem?_cons_zero, Option.getD_some, List.setIfInBounds_toArray, List.set_cons_zero, List.set_cons_succ]
    refine wpList_yield rfl ?vp22_1 ?yp22_1 ?_
    case yp22_1 => go_simp; try with_reducible rfl
    simp only [Act.put, List.setIfInBounds_toArray, List.set_cons_zero, List.set_cons_succ]
    refine wpList_yield rfl _ (exec_move _ rfl) ?_
    simp only [Act.put, Act.eval, Array.getD_eq_getD_getElem?, List.getElem?_toArray, List.getElem?_cons_succ, List.getElem?_cons_zero, Option.getD_some, List.setIfInBounds_toArray, List.set_cons_zero, List.set_cons_succ]
    refine no_implicit_lambda% (wpList_skip_w ?k23_3 ?_)
    case k23_3 => rfl
    simp only [Act.put, List.setIfInBounds_toArray, List.set_cons_zero, List.set_cons_succ]
    refine no_implicit_lambda% (wpList_skip_w ?k24_4 ?_)
    case k24_4 => rfl
    simp only [Act.put, List.setIfInBounds_toArray, List.set_cons_zero, List.set_cons_succ]
    refine no_implicit_lambda% (wpList_skip_w ?k25_5 ?_)
    case k25_5 => rfl
    simp only [Act.put, List.setIfInBounds_toArray, List.set_cons_zero, List.set_cons_succ]
    refine no_implicit_lambda% (wpList_skip_w ?k26_6 ?_)
    case k26_6 => rfl
    simp only [Act.put, List.setIfInBounds_toArray, List.set_cons_zero, List.set_cons_succ]
    refine no_implicit_lambda% (wpList_skip_w ?k27_7 ?_)
    case k27_7 => rfl
    simp only [Act.put, List.setIfInBounds_toArray, List.set_cons_zero, List.set_cons_succ]
    refine no_implicit_lambda% (wpList_skip_w ?k28_8 ?_)
    case k28_8 => rfl
    simp only [Act.put, List.setIfInBounds_toArray, List.set_cons_zero, List.set_cons_succ]
    refine no_implicit_lambda% (wpList_skip_w ?k29_9 ?_)
    case k29_9 => rfl
    simp only [Act.put, List.setIfInBounds_toArray, List.set_cons_zero, List.set_cons_succ]
    refine wpList_yield rfl ?vp30_10 ?yp30_10 ?_
    case yp30_10 => go_simp; try with_reducible rfl
    simp only [Act.put, List.setIfInBounds_toArray, List.set_cons_zero, List.set_cons_succ]
    refine wpList_nil ?_
    go_upto_region 2 with fail
    refine wp_region_lit ?_
    refine wpList_yield rfl _ (exec_build _ rfl (bvs (zb 32)).toArray (by kernel_rfl)) ?_
    simp only [Act.put, List.setIfInBounds_toArray, List.set_cons_zero, List.set_cons_succ]
    refine wpList_store_at at25w.i rfl (.tmp 4) (.tmp 17) rfl w.heap.size 0 25 (bvs (zb 32)) (bvs (zb 32)) rfl rfl hbz (by rw [bvs_length]; exact HRL.out) (by rw [bvs_length, zb_length]; omega) (bvs_one _) ?_
    intro w4 hb4 hg4 hs4
    (try simp only [Act.put, List.setIfInBounds_toArray, List.set_cons_zero, List.set_cons_succ])
    refine wpList_yield rfl _ (exec_assign _ rfl) ?_
    simp only [Act.put, Act.eval, Array.getD_eq_getD_getElem?, List.getElem?_toArray, List.getElem?_cons_succ, List.getElem?_cons_zero, Option.getD_some, List.setIfInBounds_toArray, List.set_cons_zero, List.set_cons_succ]
    refine wpList_nil ?_
    go_wp2_with fail
    (try simp only [Exit.inBlock, Exit.then])
    rw [splice_all _ _ (by rfl)] at hb4
    refine bodyPost_ret (ret_cell_tmp rfl at25w _ _ w.heap.size 25 (bvs (zb 32)) rfl hb4 (by rw [bvs_length]; exact HRL.out)) rfl ?_
    exact ⟨rfl, hw0.grown hg4 hw0.size (by intro k hk; cases hk; omega)⟩
  · have hz2 : (n : Int) ≤ z := by omega
    have hq1 : decide (z < 0) = false := by simp; omega
    have hq2 : decide ((n : Int) ≤ z) = true := by simp; omega
    clear hz hz1 hz2
    go_enter Try.func151, Try.ntmps151
    go_upto_region 1 with fail
    generalize hW : World.alloc w _ = w0
    have hall : Blk w0 w.heap.size 25 (bvs (zb 32)) ∧ Below w.heap.size w w0 := by rw [← hW]; exact hall
    clear hW
    obtain ⟨hbz, hw0⟩ := hall
    refine wp_region_lit ?_
    refine wpList_yield rfl _ (exec_move _ rfl) ?_
    simp only [Act.put, Act.eval, Array.getD_eq_getD_getElem?, List.getElem?_toArray, List.getElem?_cons_succ, List.getElem?_cons_zero, Option.getD_some, List.setIfInBounds_toArray, List.set_cons_zero, List.set_cons_succ]
    refine wpList_yield rfl ?vp31_1 ?yp31_1 ?_
    case yp31_1 => go_simp; try with_reducible rfl
    simp only [Act.put, List.setIfInBounds_toArray, List.set_cons_zero, List.set_cons_succ]
    refine wpList_yield rfl _ (exec_move _ rfl) ?_
    simp only [Act.put, Act.eval, Array.getD_eq_getD_getElem?, List.getElem?_toArray, List.getElem?_cons_succ, List.getElem?_cons_zero, Option.getD_some, List.setIfInBounds_toArray, List.set_cons_zero, List.set_cons_succ]
    refine wpList_yield_w rfl _ (exec_move _ rfl) ?_
    simp only [Act.put, Act.eval, Array.getD_eq_getD_getElem?, List.getElem?_toArray, List.getElem?_cons_succ, List.getElem?_cons_zero, Option.getD_some, List.setIfInBounds_toArray, List.set_cons_zero, List.set_cons_succ]
    refine wpList_yield_w rfl _ (exec_move _ rfl) ?_
    simp only [Act.put, Act.eval, Array.getD_eq_getD_getElem?, List.getElem?_toArray, List.getElem?_cons_succ, List.getElem?_cons_zero, Option.getD_some, List.setIfInBounds_toArray, List.set_cons_zero, List.set_cons_succ]
    refine wpList_yield_w rfl _ (exec_nilck _ rfl _ rfl) ?_
    simp only [Act.put, List.setIfInBounds_toArray, List.set_cons_zero, List.set_cons_succ]
    refine wpList_yield_w rfl _ (exec_r0 _ rfl g rfl) ?_
    simp only [Act.put, List.setIfInBounds_toArray, List.set_cons_zero, List.set_cons_succ]
    refine wpList_yield_w rfl _ (exec_load132 _ rfl _ _ rfl (cell_below hw0 hcl.out)) ?_
    simp only [Act.put, List.setIfInBounds_toArray, List.set_cons_zero, List.set_cons_succ]
    refine wpList_yield_w rfl _ (exec_len132 _ rfl A n c rfl) ?_
    simp only [Act.put, List.setIfInBounds_toArray, List.set_cons_zero, List.set_cons_succ]
    refine wpList_yield_w rfl ?vp32_9 ?yp32_9 ?_
    case yp32_9 => go_simp; try with_reducible rfl
    simp only [Act.put, List.setIfInBounds_toArray, List.set_cons_zero, List.set_cons_succ]
    refine wpList_yield rfl ?vp33_10 ?yp33_10 ?_
    case yp33_10 => go_simp; try with_reducible rfl
    simp only [Act.put, List.setIfInBounds_toArray, List.set_cons_zero, List.set_cons_succ]
    refine wpList_nil ?_
    go_upto_region 2 with fail
    refine wp_region_lit ?_
    refine wpList_yield rfl _ (exec_build _ rfl (bvs (zb 32)).toArray (by kernel_rfl)) ?_
    simp only [Act.put, List.setIfInBounds_toArray, List.set_cons_zero, List.set_cons_succ]
    refine wpList_store_at at25w.i rfl (.tmp 4) (.tmp 17) rfl w.heap.size 0 25 (bvs (zb 32)) (bvs (zb 32)) rfl rfl hbz (by rw [bvs_length]; exact HRL.out) (by rw [bvs_length, zb_length]; omega) (bvs_one _) ?_
    intro w4 hb4 hg4 hs4
    (try simp only [Act.put, List.setIfInBounds_toArray, List.set_cons_zero, List.set_cons_succ])
    refine wpList_yield rfl _ (exec_assign _ rfl) ?_
    simp only [Act.put, Act.eval, Array.getD_eq_getD_getElem?, List.getElem?_toArray, List.getElem?_cons_succ, List.getElem?_cons_zero, Option.getD_some, List.setIfInBounds_toArray, List.set_cons_zero, List.set_cons_succ]
    refine wpList_nil ?_
    go_wp2_with fail
    (try simp only [Exit.inBlock, Exit.then])
    rw [splice_all _ _ (by rfl)] at hb4
    refine bodyPost_ret (ret_cell_tmp rfl at25w _ _ w.heap.size 25 (bvs (zb 32)) rfl hb4 (by rw [bvs_length]; exact HRL.out)) rfl ?_
    exact ⟨rfl, hw0.grown hg4 hw0.size (by intro k hk; cases hk; omega)⟩
set_option maxRecDepth 100000 in
set_option maxHeartbeats 1000000 in
theorem rroots_in {S : Nat → Prop} (g : Nat) (rs : List (List UInt8)) (w : World) (h : Lr S w g rs) (l m : Nat) (h1 : l ≤ m) (h2 : m ≤ rs.length) :
    Calls Try.prog 152 #[.pointer (some ⟨g, 0, none⟩), .int .i64 (l : Int), .int .i64 (m : Int)] w fun e w' => ∃ A c, e = .returned (.tuple #[.slice A (m - l) c, .int .i64 0]) ∧ Hl w' A (m - l) c (midL rs l m) ∧ (∀ ad, A = some ad → S ad.block) ∧ w = w' := by
  obtain ⟨A, c, v⟩ := h.view
  have hown := cut_own v.own c l 32
  have hcl := Lib.hid (lr_cell v.blk)
  have HL := v.r.mid l m h1 h2
  have hcap := v.r.cap
  generalize rs.length = n at *
  have q1 : decide ((l : Int) < 0) = false := by simp
  have q2 : decide (n < m) = false := by simp; omega
  have q3 : decide (m < l) = false := by simp; omega
  clear v h
  go_enter Try.func152, Try.ntmps152
  go_upto_region 1 with fail
  refine wp_region_lit ?_
  refine wpList_yield rfl _ (exec_move _ rfl) ?_
  simp only [Act.put, Act.eval, Array.getD_eq_getD_getElem?, List.getElem?_toArray, List.getElem?_cons_succ, List.getElem?_cons_zero, Option.getD_some, List.setIfInBounds_toArray, List.set_cons_zero, List.set_cons_succ]
  refine wpList_yield rfl ?vp34_1 ?yp34_1 ?_
  case yp34_1 => go_simp; try with_reducible rfl
  simp only [Act.put, List.setIfInBounds_toArray, List.set_cons_zero, List.set_cons_succ]
  refine wpList_yield rfl _ (exec_move _ rfl) ?_
  simp only [Act.put, Act.eval, Array.getD_eq_getD_getElem?, List.getElem?_toArray, List.getElem?_cons_succ, List.getElem?_cons_zero, Option.getD_some, List.setIfInBounds_toArray, List.set_cons_zero, List.set_cons_succ]
  refine wpList_yield_w rfl _ (exec_move _ rfl) ?_
  simp only [Act.put, Act.eval, Array.getD_eq_getD_getElem?, List.getElem?_toArray, List.getElem?_cons_succ, List.getElem?_cons_zero, Option.getD_some, List.setIfInBounds_toArray, List.set_cons_zero, List.set_cons_succ]
  refine wpList_yield_w rfl _ (exec_move _ rfl) ?_
  simp only [Act.put, Act.eval, Array.getD_eq_getD_getElem?, List.getElem?_toArray, List.getElem?_cons_succ, List.getElem?_cons_zero, Option.getD_some, List.setIfInBounds_toArray, List.set_cons_zero, List.set_cons_succ]
  refine wpList_yield_w rfl _ (exec_nilck _ rfl _ rfl) ?_
  simp only [Act.put, List.setIfInBounds_toArray, List.set_cons_zero, List.set_cons_succ]
  refine wpList_yield_w rfl _ (exec_r0 _ rfl g rfl) ?_
  simp only [Act.put, List.setIfInBounds_toArray, List.set_cons_zero, List.set_cons_succ]
  refine wpList_yield_w rfl _ (exec_load132 _ rfl _ _ rfl hcl.out) ?_
  simp only [Act.put, List.setIfInBounds_toArray, List.set_cons_zero, List.set_cons_succ]
  refine wpList_yield_w rfl _ (exec_len132 _ rfl A n c rfl) ?_
  simp only [Act.put, List.setIfInBounds_toArray, List.set_cons_zero, List.set_cons_succ]
  refine wpList_yield_w rfl ?vp35_9 ?yp35_9 ?_
  case yp35_9 => go_simp; try with_reducible rfl
  simp only [Act.put, List.setIfInBounds_toArray, List.set_cons_zero, List.set_cons_succ]
  refine wpList_yield rfl ?vp36_10 ?yp36_10 ?_
  case yp36_10 => go_simp; try with_reducible rfl
  simp only [Act.put, List.setIfInBounds_toArray, List.set_cons_zero, List.set_cons_succ]
  refine wpList_yield rfl _ (exec_move _ rfl) ?_
  simp only [Act.put, Act.eval, Array.getD_eq_getD_getElem?, List.getElem?_toArray, List.getElem?_cons_succ, List.getElem?_cons_zero, Option.getD_some, List.setIfInBounds_toArray, List.set_cons_zero, List.set_cons_succ]
  refine wpList_yield_w rfl _ (exec_move _ rfl) ?_
  simp only [Act.put, Act.eval, Array.getD_eq_getD_getElem?, List.getElem?_toArray, List.getElem?_cons_succ, List.getElem?_cons_zero, Option.getD_some, List.setIfInBounds_toArray, List.set_cons_zero, List.set_cons_succ]
  refine wpList_yield_w rfl _ (exec_move _ rfl) ?_
  simp only [Act.put, Act.eval, Array.getD_eq_getD_getElem?, List.getElem?_toArray, List.getElem?_cons_succ, List.getElem?_cons_zero, Option.getD_some, List.setIfInBounds_toArray, List.set_cons_zero, List.set_cons_succ]
  refine wpList_yield_w rfl ?vp37_14 ?yp37_14 ?_
  case yp37_14 => go_simp; try with_reducible rfl
  simp only [Act.put, List.setIfInBounds_toArray, List.set_cons_zero, List.set_cons_succ]
  refine wpList_yield rfl ?vp38_15 ?yp38_15 ?_
  case yp38_15 => go_simp; try with_reducible rfl
  simp only [Act.put, List.setIfInBounds_toArray, List.set_cons_zero, List.set_cons_succ]
  refine wpList_nil ?_
  go_upto_region 3 with fail
  refine wp_region_lit ?_
  refine wpList_yield rfl _ (exec_move _ rfl) ?_
  simp only [Act.put, Act.eval, Array.getD_eq_getD_getElem?, List.getElem?_toArray, List.getElem?_cons_succ, List.getElem?_cons_zero, Option.getD_some, List.setIfInBounds_toArray, List.set_cons_zero, List.set_cons_succ]
  refine wpList_yield rfl _ (exec_nilck _ rfl _ rfl) ?_
  simp only [Act.put, List.setIfInBounds_toArray, List.set_cons_zero, List.set_cons_succ]
  refine wpList_yield rfl _ (exec_r0 _ rfl g rfl) ?_
  simp only [Act.put, List.setIfInBounds_toArray, List.set_cons_zero, List.set_cons_succ]
  refine wpList_yield rfl _ (exec_load132 _ rfl _ _ rfl hcl.out) ?_
  simp only [Act.put, List.setIfInBounds_toArray, List.set_cons_zero, List.set_cons_succ]
  refine wpList_yield rfl _ (exec_move _ rfl) ?_
  simp only [Act.put, Act.eval, Array.getD_eq_getD_getElem?, List.getElem?_toArray, List.getElem?_cons_succ, List.getElem?_cons_zero, Option.getD_some, List.setIfInBounds_toArray, List.set_cons_zero, List.set_cons_succ]
  refine wpList_yield rfl _ (exec_move _ rfl) ?_
  simp only [Act.put, Act.eval, Array.getD_eq_getD_getElem?, List.getElem?_toArray, List.getElem?_cons_succ, List.getElem?_cons_zero, Option.getD_some, List.setIfInBounds_toArray, List.set_cons_zero, List.set_cons_succ]
  refine wpList_yield rfl _ (exec_slice_mid st132 _ _ _ rfl A n c l m .i64 .i64 rfl rfl rfl h1 (by omega)) ?_
  simp only [Act.put, List.setIfInBounds_toArray, List.set_cons_zero, List.set_cons_succ]
  refine wpList_yield rfl _ (exec_assign _ rfl) ?_
  simp only [Act.put, Act.eval, Array.getD_eq_getD_getElem?, List.getElem?_toArray, List.getElem?_cons_succ, List.getElem?_cons_zero, Option.getD_some, List.setIfInBounds_toArray, List.set_cons_zero, List.set_cons_succ]
  refine wpList_yield rfl _ (exec_assign _ rfl) ?_
  simp only [Act.put, Act.eval, Array.getD_eq_getD_getElem?, List.getElem?_toArray, List.getElem?_cons_succ, List.getElem?_cons_zero, Option.getD_some, List.setIfInBounds_toArray, List.set_cons_zero, List.set_cons_succ]
  refine wpList_nil ?_
  go_wp2_with fail
  go_ret2
  exact ⟨_, _, rfl, HL, hown, rfl⟩
set_option maxRecDepth 100000 in
set_option maxHeartbeats 1000000 in
theorem rroots_out {S : Nat → Prop} (g : Nat) (rs : List (List UInt8)) (w : World) (h : Lr S w g rs) (x y : Int) (hq : x < 0 ∨ (rs.length : Int) < y ∨ y < x) :
    Calls Try.prog 152 #[.pointer (some ⟨g, 0, none⟩), .int .i64 x, .int .i64 y] w fun e w' => e = .returned (.tuple #[.slice none 0 0, .int .i64 2]) ∧ w = w' := by
  obtain ⟨A, c, v⟩ := h.view
  have hcl := Lib.hid (lr_cell v.blk)
  generalize rs.length = n at *
  clear v h
  by_cases q1 : x < 0
  · clear hq
    go_enter Try.func152, Try.ntmps152
    go_upto_region 1 with fail
    refine wp_region_lit ?_
    refine wpList_yield rfl _ (exec_move _ rfl) ?_
    simp only [Act.put, Act.eval, Array.getD_eq_getD_getElem?, List.getElem?_toArray, List.getElem?_cons_succ, List.getElem?_cons_zero, Option.getD_some, List.setIfInBounds_toArray, List.set_cons_zero, List.set_cons_succ]
    refine wpList_yield rfl ?vp39_1 ?yp39_1 ?_
    case yp39_1 => go_simp; try with_reducible rfl
    simp only [Act.put, List.setIfInBounds_toArray, List.set_cons_zero, List.set_cons_succ]
    refine wpList_yield rfl _ (exec_move _ rfl) ?_
    simp only [Act.put, Act.eval, Array.getD_eq_getD_getElem?, List.getElem?_toArray, List.getElem?_cons_succ, List.getElem?_cons_zero, Option.getD_some, List.setIfInBounds_toArray, List.set_cons_zero, List.set_cons_succ]
    refine no_implicit_lambda% (wpList_skip_w ?k40_3 ?_)
    case k40_3 => rfl
    simp only [Act.put, List.setIfInBounds_toArray, List.set_cons_zero, List.set_cons_succ]
    refine no_implicit_lambda% (wpList_skip_w ?k41_4 ?_)
    case k41_4 => rfl
    simp only [Act.put, List.setIfInBounds_toArray, List.set_cons_zero, List.set_cons_succ]
    refine no_implicit_lambda% (wpList_skip_w ?k42_5 ?_)
    case k42_5 => rfl
    simp only [Act.put, List.setIfInBounds_toArray, List.set_cons_zero, List.set_cons_succ]
    refine no_implicit_lambda% (wpList_skip_w ?k43_6 ?_)
    case k43_6 => rfl
    simp only [Act.put, List.setIfInBounds_toArray, List.set_cons_zero, List.set_cons_succ]
    refine no_implicit_lambda% (wpList_skip_w ?k44_7 ?_)
    case k44_7 => rfl
    simp only [Act.put, List.setIfInBounds_toArray, List.set_cons_zero, List.set_cons_succ]
    refine no_implicit_lambda% (wpList_skip_w ?k45_8 ?_)
    case k45_8 => rfl
    simp only [Act.put, List.setIfInBounds_toArray, List.set_cons_zero, List.set_cons_succ]
    refine no_implicit_lambda% (wpList_skip_w ?k46_9 ?_)
    case k46_9 => rfl
    simp only [Act.put, List.setIfInBounds_toArray, List.set_cons_zero, List.set_cons_succ]
    refine wpList_yield rfl ?vp47_10 ?yp47_10 ?_
    case yp47_10 => go_simp; try with_reducible rfl
    simp only [Act.put, List.setIfInBounds_toArray, List.set_cons_zero, List.set_cons_succ]
    refine wpList_yield rfl _ (exec_move _ rfl) ?_
    simp only [Act.put, Act.eval, Array.getD_eq_getD_getElem?, List.getElem?_toArray, List.getElem?_cons_succ, List.getElem?_cons_zero, Option.getD_some, List.setIfInBounds_toArray, List.set_cons_zero, List.set_cons_succ]
    refine no_implicit_lambda% (wpList_skip_w ?k48_12 ?_)
    case k48_12 => rfl
    simp only [Act.put, List.setIfInBounds_toArray, List.set_cons_zero, List.set_cons_succ]
    refine no_implicit_lambda% (wpList_skip_w ?k49_13 ?_)
    case k49_13 => rfl
    simp only [Act.put, List.setIfInBounds_toArray, List.set_cons_zero, List.set_cons_succ]
    refine no_implicit_lambda% (wpList_skip_w ?k50_14 ?_)
    case k50_14 => rfl
    simp only [Act.put, List.setIfInBounds_toArray, List.set_cons_zero, List.set_cons_succ]
    refine wpList_yield rfl ?vp51_15 ?yp51_15 ?_
    case yp51_15 => go_simp; try with_reducible rfl
    simp only [Act.put, List.setIfInBounds_toArray, List.set_cons_zero, List.set_cons_succ]
    refine wpList_nil ?_
    go_wp2_with fail
    go_ret2
    exact ⟨rfl, rfl⟩
  · have d1 : decide (x < 0) = false := by simp; omega
    by_cases q2 : (n : Int) < y
    · have d2 : decide ((n : Int) < y) = true := by simp; omega
      clear hq q1 q2
      go_enter Try.func152, Try.ntmps152
      go_upto_region 1 with fail
      refine wp_region_lit ?_
      refine wpList_yield rfl _ (exec_move _ rfl) ?_
      simp only [Act.put, Act.eval, Array.getD_eq_getD_getElem?, List.getElem?_toArray, List.getElem?_cons_succ, List.getElem?_cons_zero, Option.getD_some, List.setIfInBounds_toArray, List.set_cons_zero, List.set_cons_succ]
      refine wpList_yield rfl ?vp52_1 ?yp52_1 ?_
      case yp52_1 => go_simp; try with_reducible rfl
      simp only [Act.put, List.setIfInBounds_toArray, List.set_cons_zero, List.set_cons_succ]
      refine wpList_yield rfl _ (exec_move _ rfl) ?_
      simp only [Act.put, Act.eval, Array.getD_eq_getD_getElem?, List.getElem?_toArray, List.getElem?_cons_succ, List.getElem?_cons_zero, Option.getD_some, List.setIfInBounds_toArray, List.set_cons_zero, List.set_cons_succ]
      refine wpList_yield_w rfl _ (exec_move _ rfl) ?_
      simp only [Act.put, Act.eval, Array.getD_eq_getD_getElem?, List.getElem?_toArray, List.getElem?_cons_succ, List.getElem?_cons_zero, Option.getD_some, List.setIfInBounds_toArray, List.set_cons_zero, List.set_cons_succ]
      refine wpList_yield_w rfl _ (exec_move _ rfl) ?_
      simp only [Act.put, Act.eval, Array.getD_eq_getD_getElem?, List.getElem?_toArray, List.getElem?_cons_succ, List.getElem?_cons_zero, Option.getD_some, List.setIfInBounds_toArray, List.set_cons_zero, List.set_cons_succ]
      refine wpList_yield_w rfl _ (exec_nilck _ rfl _ rfl) ?_
      simp only [Act.put, List.setIfInBounds_toArray, List.set_cons_zero, List.set_cons_succ]
      refine wpList_yield_w rfl _ (exec_r0 _ rfl g rfl) ?_
      simp only [Act.put, List.setIfInBounds_toArray, List.set_cons_zero, List.set_cons_succ]
      refine wpList_yield_w rfl _ (exec_load132 _ rfl _ _ rfl hcl.out) ?_
      simp only [Act.put, List.setIfInBounds_toArray, List.set_cons_zero, List.set_cons_succ]
      refine wpList_yield_w rfl _ (exec_len132 _ rfl A n c rfl) ?_
      simp only [Act.put, List.setIfInBounds_toArray, List.set_cons_zero, List.set_cons_succ]
      refine wpList_yield_w rfl ?vp53_9 ?yp53_9 ?_
      case yp53_9 => go_simp; try with_reducible rfl
      simp only [Act.put, List.setIfInBounds_toArray, List.set_cons_zero, List.set_cons_succ]
      refine wpList_yield rfl ?vp54_10 ?yp54_10 ?_
      case yp54_10 => go_simp; try with_reducible rfl
      simp only [Act.put, List.setIfInBounds_toArray, List.set_cons_zero, List.set_cons_succ]
      refine wpList_yield rfl _ (exec_move _ rfl) ?_
      simp only [Act.put, Act.eval, Array.getD_eq_getD_getElem?, List.getElem?_toArray, List.getElem?_cons_succ, List.getElem?_cons_zero, Option.getD_some, List.setIfInBounds_toArray, List.set_cons_zero, List.set_cons_succ]
      refine no_implicit_lambda% (wpList_skip_w ?k55_12 ?_)
      case k55_12 => rfl
      simp only [Act.put, List.setIfInBounds_toArray, List.set_cons_zero, List.set_cons_succ]
      refine no_implicit_lambda% (wpList_skip_w ?k56_13 ?_)
      case k56_13 => rfl
      simp only [Act.put, List.setIfInBounds_toArray, List.set_cons_zero, List.set_cons_succ]
      refine no_implicit_lambda% (wpList_skip_w ?k57_14 ?_)
      case k57_14 => rfl
      simp only [Act.put, List.setIfInBounds_toArray, List.set_cons_zero, List.set_cons_succ]
      refine wpList_yield rfl ?vp58_15 ?yp58_15 ?_
      case yp58_15 => go_simp; try with_reducible rfl
      simp only [Act.put, List.setIfInBounds_toArray, List.set_cons_zero, List.set_cons_succ]
      refine wpList_nil ?_
      go_wp2_with fail
      go_ret2
      exact ⟨rfl, rfl⟩
    · have d2 : decide ((n : Int) < y) = false := by simp; omega
      have d3 : decide (y < x) = true := by simp; omega
      clear hq q1 q2
      go_enter Try.func152, Try.ntmps152
      go_upto_region 1 with fail
      refine wp_region_lit ?_
      refine wpList_yield rfl _ (exec_move _ rfl) ?_
      simp only [Act.put, Act.eval, Array.getD_eq_getD_getElem?, List.getElem?_toArray, List.getElem?_cons_succ, List.getElem?_cons_zero, Option.getD_some, List.setIfInBounds_toArray, List.set_cons_zero, List.set_cons_succ]
      refine wpList_yield rfl ?vp59_1 ?yp59_1 ?_
      case yp59_1 => go_simp; try with_reducible rfl
      simp only [Act.put, List.setIfInBounds_toArray, List.set_cons_zero, List.set_cons_succ]
      refine wpList_yield rfl _ (exec_move _ rfl) ?_
      simp only [Act.put, Act.eval, Array.getD_eq_getD_getElem?, List.getElem?_toArray, List.getElem?_cons_succ, List.getElem?_cons_zero, Option.getD_some, List.setIfInBounds_toArray, List.set_cons_zero, List.set_cons_succ]
      refine wpList_yield_w rfl _ (exec_move _ rfl) ?_
      simp only [Act.put, Act.eval, Array.getD_eq_getD_getElem?, List.getElem?_toArray, List.getElem?_cons_succ, List.getElem?_cons_zero, Option.getD_some, List.setIfInBounds_toArray, List.set_cons_zero, List.set_cons_succ]
      refine wpList_yield_w rfl _ (exec_move _ rfl) ?_
      simp only [Act.put, Act.eval, Array.getD_eq_getD_getElem?, List.getElem?_toArray, List.getElem?_cons_succ, List.getElem?_cons_zero, Option.getD_some, List.setIfInBounds_toArray, List.set_cons_zero, List.set_cons_succ]
      refine wpList_yield_w rfl _ (exec_nilck _ rfl _ rfl) ?_
      simp only [Act.put, List.setIfInBounds_toArray, List.set_cons_zero, List.set_cons_succ]
      refine wpList_yield_w rfl _ (exec_r0 _ rfl g rfl) ?_
      simp only [Act.put, List.setIfInBounds_toArray, List.set_cons_zero, List.set_cons_succ]
      refine wpList_yield_w rfl _ (exec_load132 _ rfl _ _ rfl hcl.out) ?_
      simp only [Act.put, List.setIfInBounds_toArray, List.set_cons_zero, List.set_cons_succ]
      refine wpList_yield_w rfl _ (exec_len132 _ rfl A n c rfl) ?_
      simp only [Act.put, List.setIfInBounds_toArray, List.set_cons_zero, List.set_cons_succ]
      refine wpList_yield_w rfl ?vp60_9 ?yp60_9 ?_
      case yp60_9 => go_simp; try with_reducible rfl
      simp only [Act.put, List.setIfInBounds_toArray, List.set_cons_zero, List.set_cons_succ]
      refine wpList_yield rfl ?vp61_10 ?yp61_10 ?_
      case yp61_10 => go_simp; try with_reducible rfl
      simp only [Act.put, List.setIfInBounds_toArray, List.set_cons_zero, List.set_cons_succ]
      refine wpList_yield rfl _ (exec_move _ rfl) ?_
      simp only [Act.put, Act.eval, Array.getD_eq_getD_getElem?, List.getElem?_toArray, List.getElem?_cons_succ, List.getElem?_cons_zero, Option.getD_some, List.setIfInBounds_toArray, List.set_cons_zero, List.set_cons_succ]
      refine wpList_yield_w rfl _ (exec_move _ rfl) ?_
      simp only [Act.put, Act.eval, Array.getD_eq_getD_getElem?, List.getElem?_toArray, List.getElem?_cons_succ, List.getElem?_cons_zero, Option.getD_some, List.setIfInBounds_toArray, List.set_cons_zero, List.set_cons_succ]
      refine wpList_yield_w rfl _ (exec_move _ rfl) ?_
      simp only [Act.put, Act.eval, Array.getD_eq_getD_getElem?, List.getElem?_toArray, List.getElem?_cons_succ, List.getElem?_cons_zero, Option.getD_some, List.setIfInBounds_toArray, List.set_cons_zero, List.set_cons_succ]
      refine wpList_yield_w rfl ?vp62_14 ?yp62_14 ?_
      case yp62_14 => go_simp; try with_reducible rfl
      simp only [Act.put, List.setIfInBounds_toArray, List.set_cons_zero, List.set_cons_succ]
      refine wpList_yield rfl ?vp63_15 ?yp63_15 ?_
      case yp63_15 => go_simp; try with_reducible rfl
      simp only [Act.put, List.setIfInBounds_toArray, List.set_cons_zero, List.set_cons_succ]
      refine wpList_nil ?_
      go_wp2_with fail
      go_ret2
      exact ⟨rfl, rfl⟩
end Go.Proofs.Ytehbahobkgoapaa
namespace Go.Proofs.Ytehbahobkgoapaa
open Go Go.RowKit
set_option linter.unusedSimpArgs false
set_option linter.unusedVariables false
/-- While the document's Find turns: the head of the first k roots is in the block gt, what is sought in gh. -/
structure FindS (w : World) (gh gt : Nat) (h d : List UInt8) (wr : World) : Prop where
  bh : Blk wr gh 25 (bvs h)
  bt : Blk wr gt 25 (bvs d)
  below : Below w.heap.size w wr
theorem fold_take (rs : List (List UInt8)) (k : Nat) (hk : k < rs.length) : nextH (foldH firstH (rs.take k)) (rs.getD k []) = foldH firstH (rs.take (k + 1)) := by
  rw [List.take_succ_eq_append_getElem hk, List.getD_eq_getElem?_getD, List.getElem?_eq_getElem hk]
  unfold foldH
  rw [List.foldl_append]
  rfl
theorem findr_no (rs : List (List UInt8)) (h : List UInt8) (hle : rs.length + 1 ≤ fidx (heads rs) h) : findN rs h = 0 ∧ findB rs h = false := by
  unfold findN findB
  rw [if_neg (by omega)]
  exact ⟨rfl, by simp; omega⟩
theorem findr_yes (rs : List (List UInt8)) (h : List UInt8) (k : Nat) (hk : k ≤ rs.length) (e : fidx (heads rs) h = k) : findN rs h = k ∧ findB rs h = true := by
  unfold findN findB
  rw [if_pos (by omega), e]
  exact ⟨rfl, by simp; omega⟩
set_option maxRecDepth 100000 in
set_option maxHeartbeats 4000000 in
theorem rfind_any {S : Nat → Prop} (g : Nat) (rs : List (List UInt8)) (h : List UInt8) (w : World) (hg : Lr S w g rs) (lh : h.length = 32) :
    Calls Try.prog 153 #[.pointer (some ⟨g, 0, none⟩), .agg (bvs h).toArray] w fun e w' => e = .returned (.tuple #[.int .i64 (findN rs h : Int), .bool (findB rs h)]) ∧ Below w.heap.size w w' := by
  obtain ⟨A, c, v⟩ := hg.view
  have hcl := Lib.hid (lr_cell v.blk)
  have HL := v.r
  have hcap := v.r.cap
  have hfew := v.few
  have LH := Lib.hid lh
  have C1 := fun u => Lib.hid (crfirst_any u)
  rw [show shaL [4] = firstH from rfl] at C1
  have HFL : Hid (firstH.length = 32) := Lib.hid firstH_length
  obtain ⟨FD, hFD⟩ : ∃ FD : Nat → List UInt8, ∀ k, FD k = foldH firstH (rs.take k) := ⟨fun k => foldH firstH (rs.take k), fun _ => rfl⟩
  have H0 : Hid (FD 0 = firstH) := Lib.hid (by rw [hFD]; rfl)
  have HX : ∀ k, k < rs.length → Hid (shaL (5 :: (FD k ++ rs.getD k [])) = FD (k + 1)) := fun k hk => Lib.hid (by rw [hFD, hFD]; exact fold_take rs k hk)
  have HT : Hid (FD (rs.length + 1) = FD rs.length) := Lib.hid (by rw [hFD, hFD, List.take_of_length_le (by omega), List.take_of_length_le (by omega)])
  have HD : ∀ k, Hid ((FD k).length = 32) := fun k => Lib.hid (by rw [hFD]; exact foldH_len _)
  have NO := fun hle => Lib.hid (findr_no rs h hle)
  have YES := fun k hk e => Lib.hid (findr_yes rs h k hk e)
  have IA := fun (k : Nat) (hk : k ≤ rs.length) (hle : k ≤ fidx (heads rs) h) (e : FD k = h) => Lib.hid (fidx_at (heads rs) h k (by rw [heads_length]; omega) hle (by rw [heads_get rs k hk, ← hFD]; exact e))
  have IP := fun (k : Nat) (hk : k ≤ rs.length) (hle : k ≤ fidx (heads rs) h) (e : FD k ≠ h) => Lib.hid (fidx_past (heads rs) h k (by rw [heads_length]; omega) hle (by rw [heads_get rs k hk, ← hFD]; exact e))
  clear hFD
  generalize fidx (heads rs) h = I at *
  generalize findN rs h = N at *
  generalize findB rs h = B at *
  have hbr : Blk (w.alloc (.cells (bvs h).toArray 25)) w.heap.size 25 (bvs h) := Blk.new _ _ _
  have hw0 : Below w.heap.size w (w.alloc (.cells (bvs h).toArray 25)) := (Below.refl _ _).alloc (Nat.le_refl _) _
  have hall := And.intro hbr hw0
  clear hbr hw0 v hg lh
  have z25 : ∀ u : World, Hid (Blk (u.alloc (.cells (bvs (zb 32)).toArray 25)) u.heap.size 25 (bvs (zb 32))) := fun u => Lib.hid (Blk.new _ _ _)
  generalize hnd : rs.length = n at *
  have HN := Lib.hid hnd
  clear hnd
  generalize firstH = FH at *
  unfold arr8 at C1
  go_enter Try.func153, Try.ntmps153
  go_upto_region 1 with fail
  generalize hW : World.alloc w _ = w0
  have hall : Blk w0 w.heap.size 25 (bvs h) ∧ Below w.heap.size w w0 := by rw [← hW]; exact hall
  clear hW
  obtain ⟨hbr, hw0⟩ := hall
  refine wp_region_lit ?_
  refine wpList_plain rfl fun K hK => ?_; go_simp
  with_reducible refine (C1 _).out.mono ?_
  rintro e1 w1 ⟨rfl, hw1⟩
  refine hK _ _ ?_; clear hK
  (try simp only [Act.put, List.setIfInBounds_toArray, List.set_cons_zero, List.set_cons_succ])
  refine wpList_plain rfl fun K hK => ?_; go_simp
  refine hK _ _ ?_; clear hK
  (try simp only [Act.put, List.setIfInBounds_toArray, List.set_cons_zero, List.set_cons_succ])
  refine wpList_store_at at25w.i rfl (.tmp 6) (.tmp 8) rfl w1.heap.size 0 25 (bvs (zb 32)) (bvs FH) rfl rfl (z25 w1).out (by rw [bvs_length]; exact HFL.out) (by rw [bvs_length, zb_length]; omega) (bvs_one _) ?_
  intro w2 b2 g2 s2
  (try simp only [Act.put, List.setIfInBounds_toArray, List.set_cons_zero, List.set_cons_succ])
  refine wpList_nil ?_
  rw [splice_all _ _ (by rw [bvs_length, bvs_length, zb_length]; exact HFL.out.symm)] at b2
  have V2 : Below w0.heap.size w0 w2 := (hw1.alloc hw1.size (.cells (bvs (zb 32)).toArray 25)).grown g2 (by have := hw1.size; simp; omega) (by intro k hk; cases hk; exact hw1.size)
  have hr2 := hbr.below V2 hbr.lt
  have B2 := bthen hw0 V2 hw0.size
  have hgt : Hid (w.heap.size ≤ w1.heap.size) := Lib.hid (Nat.le_trans hw0.size hw1.size)
  have hne : Hid (w.heap.size ≠ w1.heap.size) := Lib.hid (by have := hbr.lt; have := hw1.size; omega)
  clear V2 hw1 g2 s2 hbr hw0 z25 C1
  rw [← H0.out] at b2
  generalize w1.heap.size = gt at *
  go_upto_region 2 with fail
  go_wp2_with fail
  go_loopw [7] (fun i wr => ∃ k : Nat, k ≤ n + 1 ∧ i = .int .i64 (k : Int) ∧ Hid (k ≤ I) ∧ FindS w w.heap.size gt h (FD k) wr) (fun i _ => n + 1 - (intOf i).toNat)
  case atStart => exact ⟨0, by omega, by go_num, Lib.hid (Nat.zero_le _), hr2, b2, B2⟩
  case round =>
    clear hr2 b2 B2
    obtain ⟨k, hk, rfl, hle, fs⟩ := hrel
    obtain ⟨br, bt, bw⟩ := fs
    by_cases hlt : k ≤ n
    · have hltz : (k : Int) ≤ (n : Int) := by omega
      go_upto_region 3 with fail
      refine wp_region_lit ?_
      refine wpList_yield rfl _ (exec_move _ rfl) ?_
      simp only [Act.put, Act.eval, Array.getD_eq_getD_getElem?, List.getElem?_toArray, List.getElem?_cons_succ, List.getElem?_cons_zero, Option.getD_some, List.setIfInBounds_toArray, List.set_cons_zero, List.set_cons_succ]
      refine wpList_yield rfl _ (exec_move _ rfl) ?_
      simp only [Act.put, Act.eval, Array.getD_eq_getD_getElem?, List.getElem?_toArray, List.getElem?_cons_succ, List.getElem?_cons_zero, Option.getD_some, List.setIfInBounds_toArray, List.set_cons_zero, List.set_cons_succ]
      refine wpList_yield rfl _ (exec_nilck _ rfl _ rfl) ?_
      simp only [Act.put, List.setIfInBounds_toArray, List.set_cons_zero, List.set_cons_succ]
      refine wpList_yield rfl _ (exec_r0 _ rfl g rfl) ?_
      simp only [Act.put, List.setIfInBounds_toArray, List.set_cons_zero, List.set_cons_succ]
      refine wpList_yield rfl _ (exec_load132 _ rfl _ _ rfl (cell_below bw hcl.out)) ?_
      simp only [Act.put, List.setIfInBounds_toArray, List.set_cons_zero, List.set_cons_succ]
      refine wpList_yield rfl _ (exec_len132 _ rfl A n c rfl) ?_
      simp only [Act.put, List.setIfInBounds_toArray, List.set_cons_zero, List.set_cons_succ]
      refine wpList_yield rfl ?vp1_6 ?yp1_6 ?_
      case yp1_6 => go_simp; try with_reducible rfl
      simp only [Act.put, List.setIfInBounds_toArray, List.set_cons_zero, List.set_cons_succ]
      refine wpList_nil ?_
      go_upto_region 5 with fail
      by_cases hxy : FD k = h
      · have hb : Hid ((FD k == h) = true) := Lib.hid (by rw [hxy]; simp)
        obtain ⟨hN, hB⟩ := (YES k hlt (IA k hlt hle.out hxy).out).out
        have HNk := Lib.hid hN
        have HBk := Lib.hid hB
        have HDk := HD k
        clear hxy YES NO IA IP HX HT HD H0 hN hB
        generalize FD k = d at *
        refine wp_region_lit ?_
        refine wpList_yield rfl _ (exec_load_agg at25w (.tmp 6) rfl gt 25 (bvs d) rfl bt (by rw [bvs_length]; exact HDk.out)) ?_
        simp only [Act.put, List.setIfInBounds_toArray, List.set_cons_zero, List.set_cons_succ]
        refine wpList_yield rfl _ (exec_load_agg at25w (.tmp 3) rfl w.heap.size 25 (bvs h) rfl br (by rw [bvs_length]; exact LH.out)) ?_
        simp only [Act.put, List.setIfInBounds_toArray, List.set_cons_zero, List.set_cons_succ]
        refine wpList_yield rfl _ (exec_eql_to ab25 _ _ rfl d h rfl rfl HDk.out LH.out hb.out) ?_
        simp only [Act.put, List.setIfInBounds_toArray, List.set_cons_zero, List.set_cons_succ]
        refine wpList_nil ?_
        go_wp2_with fail
        go_ret2
        rw [HNk.out, HBk.out]
        exact ⟨rfl, bw⟩
      · have hb : Hid ((FD k == h) = false) := Lib.hid (by simpa using hxy)
        have HI := IP k hlt hle.out hxy
        have HDk := HD k
        clear hxy
        refine wp_region_lit ?_
        refine wpList_yield rfl _ (exec_load_agg at25w (.tmp 6) rfl gt 25 (bvs (FD k)) rfl bt (by rw [bvs_length]; exact HDk.out)) ?_
        simp only [Act.put, List.setIfInBounds_toArray, List.set_cons_zero, List.set_cons_succ]
        refine wpList_yield rfl _ (exec_load_agg at25w (.tmp 3) rfl w.heap.size 25 (bvs h) rfl br (by rw [bvs_length]; exact LH.out)) ?_
        simp only [Act.put, List.setIfInBounds_toArray, List.set_cons_zero, List.set_cons_succ]
        refine wpList_yield rfl _ (exec_eql_to ab25 _ _ rfl (FD k) h rfl rfl HDk.out LH.out hb.out) ?_
        simp only [Act.put, List.setIfInBounds_toArray, List.set_cons_zero, List.set_cons_succ]
        refine wpList_nil ?_
        go_upto_region 7 with fail
        by_cases hl2 : k < n
        · have hltz2 : (k : Int) < (n : Int) := by omega
          refine wp_region_lit ?_
          refine wpList_yield rfl _ (exec_move _ rfl) ?_
          simp only [Act.put, Act.eval, Array.getD_eq_getD_getElem?, List.getElem?_toArray, List.getElem?_cons_succ, List.getElem?_cons_zero, Option.getD_some, List.setIfInBounds_toArray, List.set_cons_zero, List.set_cons_succ]
          refine wpList_yield rfl _ (exec_move _ rfl) ?_
          simp only [Act.put, Act.eval, Array.getD_eq_getD_getElem?, List.getElem?_toArray, List.getElem?_cons_succ, List.getElem?_cons_zero, Option.getD_some, List.setIfInBounds_toArray, List.set_cons_zero, List.set_cons_succ]
          refine wpList_yield rfl _ (exec_nilck _ rfl _ rfl) ?_
          simp only [Act.put, List.setIfInBounds_toArray, List.set_cons_zero, List.set_cons_succ]
          refine wpList_yield rfl _ (exec_r0 _ rfl g rfl) ?_
          simp only [Act.put, List.setIfInBounds_toArray, List.set_cons_zero, List.set_cons_succ]
          refine wpList_yield rfl _ (exec_load132 _ rfl _ _ rfl (cell_below bw hcl.out)) ?_
          simp only [Act.put, List.setIfInBounds_toArray, List.set_cons_zero, List.set_cons_succ]
          refine wpList_yield rfl _ (exec_len132 _ rfl A n c rfl) ?_
          simp only [Act.put, List.setIfInBounds_toArray, List.set_cons_zero, List.set_cons_succ]
          refine wpList_yield rfl ?vp2_6 ?yp2_6 ?_
          case yp2_6 => go_simp; try with_reducible rfl
          simp only [Act.put, List.setIfInBounds_toArray, List.set_cons_zero, List.set_cons_succ]
          refine wpList_nil ?_
          go_upto_region 8 with fail
          obtain ⟨pa, rfl, x0, x32⟩ := HL.at k (by omega)
          have x1 := x0.below bw
          have e1 := Lib.hid x32
          have HXk := HX k (by omega)
          have HDn := HD (k + 1)
          have CN := fun u => Lib.hid (crnext_any (FD k) (rs.getD k []) u HDk.out e1.out)
          rw [HXk.out] at CN
          clear x0 x32 HXk HX HT
          generalize FD k = d at *
          generalize rs.getD k [] = x at *
          unfold arr8 at CN
          refine rg_begin (Below wr.heap.size wr) [9] [8, 9] [0, 1, 2, 3, 4, 5, 6, 7, 8, 9] 0 mixed (by kernel_rfl) (fun _ _ _ _ e hh => ⟨e.symm.trans hh.1, hh.2⟩) ?_
          simp only [pick, List.map_cons, List.map_nil, List.getD_cons_zero, List.getD_cons_succ]
          have hS : (Below wr.heap.size wr) _ := (Below.refl _ _).drew
          refine rg_take rfl rfl hS (fun W hW => exec_load_agg at25w (.tmp 6) rfl gt 25 (bvs d) rfl (bt.below hW bt.lt) (by rw [bvs_length]; exact HDk.out)) ?_
          simp only [Act.put, List.setIfInBounds_toArray, List.set_cons_zero, List.set_cons_succ]
          refine rg_take (v := ?v3_1) rfl rfl hS ?y3_1 ?_
          case y3_1 => intro W hW; (try subst hW); go_simp; try with_reducible rfl
          simp only [Act.put, List.setIfInBounds_toArray, List.set_cons_zero, List.set_cons_succ]
          refine rg_take rfl rfl hS (fun W hW => exec_nilck _ rfl _ rfl) ?_
          simp only [Act.put, List.setIfInBounds_toArray, List.set_cons_zero, List.set_cons_succ]
          refine rg_take rfl rfl hS (fun W hW => exec_r0 _ rfl g rfl) ?_
          simp only [Act.put, List.setIfInBounds_toArray, List.set_cons_zero, List.set_cons_succ]
          refine rg_take rfl rfl hS (fun W hW => exec_load132 _ rfl _ _ rfl (cell_below (bw.trans (hW.mono bw.size)) hcl.out)) ?_
          simp only [Act.put, List.setIfInBounds_toArray, List.set_cons_zero, List.set_cons_succ]
          refine rg_take (v := ?v3_5) rfl rfl hS ?y3_5 ?_
          case y3_5 => intro W hW; (try subst hW); go_simp; try with_reducible rfl
          simp only [Act.put, List.setIfInBounds_toArray, List.set_cons_zero, List.set_cons_succ]
          refine rg_take rfl rfl hS (fun W hW => exec_siaz Try.underlying132 sz25 _ _ rfl pa n c k _ rfl rfl hl2) ?_
          simp only [Act.put, List.setIfInBounds_toArray, List.set_cons_zero, List.set_cons_succ]
          refine rg_take rfl rfl hS (fun W hW => exec_load_rd at25w _ rfl _ (bvs x) rfl (x1.below hW) (by omega) (by rw [bvs_length]; exact e1.out)) ?_
          simp only [Act.put, List.setIfInBounds_toArray, List.set_cons_zero, List.set_cons_succ]
          refine rg_one rfl rfl ?_; intro K hK; go_simp
          with_reducible refine (CN _).out.mono ?_
          rintro e2 w5 ⟨rfl, hw5⟩
          have hS1 : Below wr.heap.size wr w5 := Below.trans hS (hw5.mono (Below.size hS))
          refine hK _ _ (fun _ => hS1) ?_; clear hK
          refine rg_one rfl rfl ?_; intro K hK
          refine wp_store_at at25w.i (.tmp 6) (.tmp 37) rfl gt 0 25 (bvs d) (bvs (FD (k + 1))) rfl rfl (bt.below hS1 bt.lt) (by rw [bvs_length]; exact HDn.out) (by rw [bvs_length, HDk.out]; omega) (bvs_one _) ?_
          intro w6 b6 g6 s6
          refine hK _ _ (fun h => by cases h) ?_; clear hK
          refine rg_done (by kernel_rfl) ?_
          rw [splice_all _ _ (by rw [bvs_length, bvs_length, HDk.out]; exact HDn.out.symm)] at b6
          have b7 := (br.below hS1 br.lt).grown g6 (fun e => hne.out (by have := Option.some.inj e; omega))
          have V6 : Below w.heap.size w w6 := Below.grown (bthen bw hS1 bw.size) g6 (Nat.le_trans bw.size (Below.size hS1)) (by intro k hk; cases hk; exact hgt.out)
          go_wp2_with fail
          go_roundw
          case rel => exact ⟨k + 1, by omega, by go_num, HI, b7, b6, V6⟩
          case measure => simp only [intOf]; omega
        · have hltz2 : ¬ (k : Int) < (n : Int) := by omega
          refine wp_region_lit ?_
          refine wpList_yield rfl _ (exec_move _ rfl) ?_
          simp only [Act.put, Act.eval, Array.getD_eq_getD_getElem?, List.getElem?_toArray, List.getElem?_cons_succ, List.getElem?_cons_zero, Option.getD_some, List.setIfInBounds_toArray, List.set_cons_zero, List.set_cons_succ]
          refine wpList_yield rfl _ (exec_move _ rfl) ?_
          simp only [Act.put, Act.eval, Array.getD_eq_getD_getElem?, List.getElem?_toArray, List.getElem?_cons_succ, List.getElem?_cons_zero, Option.getD_some, List.setIfInBounds_toArray, List.set_cons_zero, List.set_cons_succ]
          refine wpList_yield rfl _ (exec_nilck _ rfl _ rfl) ?_
          simp only [Act.put, List.setIfInBounds_toArray, List.set_cons_zero, List.set_cons_succ]
          refine wpList_yield rfl _ (exec_r0 _ rfl g rfl) ?_
          simp only [Act.put, List.setIfInBounds_toArray, List.set_cons_zero, List.set_cons_succ]
          refine wpList_yield rfl _ (exec_load132 _ rfl _ _ rfl (cell_below bw hcl.out)) ?_
          simp only [Act.put, List.setIfInBounds_toArray, List.set_cons_zero, List.set_cons_succ]
          refine wpList_yield rfl _ (exec_len132 _ rfl A n c rfl) ?_
          simp only [Act.put, List.setIfInBounds_toArray, List.set_cons_zero, List.set_cons_succ]
          refine wpList_yield rfl ?vp4_6 ?yp4_6 ?_
          case yp4_6 => go_simp; try with_reducible rfl
          simp only [Act.put, List.setIfInBounds_toArray, List.set_cons_zero, List.set_cons_succ]
          refine wpList_nil ?_
          obtain rfl : n = k := by omega
          rw [← HT.out] at bt
          go_wp2_with fail
          go_roundw
          case rel => exact ⟨n + 1, by omega, by go_num, HI, br, bt, bw⟩
          case measure => simp only [intOf]; omega
    · obtain rfl : k = n + 1 := by omega
      obtain ⟨hN, hB⟩ := (NO hle.out).out
      have HNk := Lib.hid hN
      have HBk := Lib.hid hB
      clear NO YES IA IP HX HT HD H0 hN hB
      have hltz : ¬ ((n + 1 : Nat) : Int) ≤ (n : Int) := by omega
      go_upto_region 3 with fail
      refine wp_region_lit ?_
      refine wpList_yield rfl _ (exec_move _ rfl) ?_
      simp only [Act.put, Act.eval, Array.getD_eq_getD_getElem?, List.getElem?_toArray, List.getElem?_cons_succ, List.getElem?_cons_zero, Option.getD_some, List.setIfInBounds_toArray, List.set_cons_zero, List.set_cons_succ]
      refine wpList_yield rfl _ (exec_move _ rfl) ?_
      simp only [Act.put, Act.eval, Array.getD_eq_getD_getElem?, List.getElem?_toArray, List.getElem?_cons_succ, List.getElem?_cons_zero, Option.getD_some, List.setIfInBounds_toArray, List.set_cons_zero, List.set_cons_succ]
      refine wpList_yield rfl _ (exec_nilck _ rfl _ rfl) ?_
      simp only [Act.put, List.setIfInBounds_toArray, List.set_cons_zero, List.set_cons_succ]
      refine wpList_yield rfl _ (exec_r0 _ rfl g rfl) ?_
      simp only [Act.put, List.setIfInBounds_toArray, List.set_cons_zero, List.set_cons_succ]
      refine wpList_yield rfl _ (exec_load132 _ rfl _ _ rfl (cell_below bw hcl.out)) ?_
      simp only [Act.put, List.setIfInBounds_toArray, List.set_cons_zero, List.set_cons_succ]
      refine wpList_yield rfl _ (exec_len132 _ rfl A n c rfl) ?_
      simp only [Act.put, List.setIfInBounds_toArray, List.set_cons_zero, List.set_cons_succ]
      refine wpList_yield rfl ?vp5_6 ?yp5_6 ?_
      case yp5_6 => go_simp; try with_reducible rfl
      simp only [Act.put, List.setIfInBounds_toArray, List.set_cons_zero, List.set_cons_succ]
      refine wpList_nil ?_
      go_wp2_with fail
      go_ret2
      rw [HNk.out, HBk.out]
      exact ⟨rfl, bw⟩
end Go.Proofs.Ytehbahobkgoapaa
namespace Go.Proofs.Ytehbahobkgoapaa
open Go Go.RowKit Go.ChangeShapes Go.WideShapes Go.ChangeAt
section
variable {H : Type} {enc : TypeId × Value → H} {P : Program} {W : World} {base : Nat}
theorem arr_bytes {n : Nat} {T E : TypeId} {fuel : Nat} {cs : List Value} {x : DataW H × List MemPlace} (ht : P.underlying T = some (.array n E)) (he : P.underlying E = some (.int .u8)) (hc : P.cellsOf E = 1) (hl : cs.length = n)
    (hf : DataW.trod enc P W 0 (fun _ => true) true fuel T cs = some x) : ∃ k : List UInt8, k.length = n ∧ cs = bvs k := by
  obtain ⟨xs, m, _, _, _, hxl, hi⟩ := DataW.trod_array ht hf
  have hone : ∀ i, i < n → ∃ x : UInt8, cs[i]? = some (bv x) := by
    intro i hi'
    have h1 := hi i hi'
    rw [hc, Nat.mul_one, List.drop_eq_getElem_cons (by omega), List.take_succ_cons, List.take_zero, List.getElem?_eq_getElem (by omega)] at h1
    obtain ⟨z, hz, _, hw⟩ := DataW.trod_int he h1
    injection hz with hz _
    exact ⟨_, by rw [List.getElem?_eq_getElem (by omega), hz, byte_of_int hw]⟩
  obtain ⟨f, hfn⟩ := Deep.choose_lt hone
  refine ⟨(List.range n).map f, by simp, ?_⟩
  apply List.ext_getElem?
  intro i
  simp only [bvs, List.map_map, List.getElem?_map]
  by_cases h : i < n
  · rw [hfn i h, List.getElem?_range h]; rfl
  · rw [List.getElem?_eq_none (by omega), List.getElem?_eq_none (by simp; omega)]; rfl
theorem flatf_get (f : Nat → List UInt8) (n : Nat) (h : ∀ i, i < n → (f i).length = 32) (j : Nat) (hj : j < 32 * n) : (((List.range n).map f).flatten)[j]? = (f (j / 32))[j % 32]? := by
  induction n with
  | zero => omega
  | succ n ih =>
    have h' : ∀ i, i < n → (f i).length = 32 := fun i hi => h i (by omega)
    have hl : ((List.range n).map f).flatten.length = 32 * n := by
      rw [flat32_len _ (by intro l hl; simp only [List.mem_map, List.mem_range] at hl; obtain ⟨i, hi, rfl⟩ := hl; exact h' i hi)]
      simp
    rw [List.range_succ, List.map_append, List.flatten_append]
    by_cases hlt : j < 32 * n
    · rw [List.getElem?_append_left (by omega), ih h' hlt]
    · rw [List.getElem?_append_right (by omega), hl]
      have e1 : j / 32 = n := by omega
      have e2 : j % 32 = j - 32 * n := by omega
      rw [e1, e2]; simp
theorem open_digs {T E Q : TypeId} (ht : P.underlying T = some (.slice E)) (hE : P.underlying E = some (.array 32 Q)) (hQ : P.underlying Q = some (.int .u8)) (cq : P.cellsOf Q = 1) (cE : P.cellsOf E = 32) {v : Value} {d : DataW H} {p : List MemPlace}
    (hv : Value.okWide P W .any base T v) (h : DataW.Trod enc P W 0 (fun _ => true) true T v d p) :
    ∃ A n c ls, v = .slice A n c ∧ Hl W A n c ls := by
  obtain ⟨A, n, c, rfl⟩ := okWide_slice ht hv
  obtain ⟨fuel, hf⟩ := h
  rcases Deep.open_slice ht hf with ⟨hcs, hx⟩ | ⟨a, len, cap, m, k, D, Pl, hcs, _, hl, hm, hmm, hx, hi⟩
  · simp [Value.cells] at hcs
    obtain ⟨rfl, rfl, rfl⟩ := hcs
    exact ⟨none, 0, 0, [], rfl, ⟨rfl, Nat.le_refl _, by simp, Rd.nil _ _, by simp⟩⟩
  · simp [Value.cells] at hcs
    obtain ⟨rfl, rfl, rfl⟩ := hcs
    simp only [if_true] at hmm
    subst m
    rw [cE] at hi
    obtain ⟨f, hfn⟩ := Deep.choose_lt (p := fun i (l : List UInt8) => W.cells? 0 (a.add (i * 32)) 32 = some (bvs l) ∧ l.length = 32) (n := n) (fun i hin => by
      obtain ⟨cs', h1, h2⟩ := hi i (by omega)
      obtain ⟨_, hlen, _⟩ := World.cells?_some h1
      obtain ⟨l, hl1, rfl⟩ := arr_bytes hE hQ cq hlen h2
      exact ⟨l, h1, hl1⟩)
    have hfl : ((List.range n).map f).flatten.length = 32 * n := by
      rw [flat32_len _ (by intro l hl; simp only [List.mem_map, List.mem_range] at hl; obtain ⟨i, hi, rfl⟩ := hl; exact (hfn i hi).2)]
      simp
    refine ⟨some a, n, c, (List.range n).map f, rfl, ⟨by simp, hl, hm, fun _ => ⟨a, rfl, fun j u hu => ?_⟩, ?_⟩⟩
    · have hj : j < 32 * n := by
        have := (List.getElem?_eq_some_iff.1 hu).1
        rw [bvs_length, hfl] at this; exact this
      simp only [bvs, List.getElem?_map] at hu
      rw [flatf_get f n (fun i hi => (hfn i hi).2) j hj] at hu
      obtain ⟨h1, h2⟩ := hfn (j / 32) (by omega)
      obtain ⟨_, _, h3⟩ := World.cells?_some h1
      have h4 := h3 (j % 32) (by omega)
      rw [Deep.add_add, show j / 32 * 32 + j % 32 = j by omega] at h4
      rw [h4]
      simp only [bvs, List.getElem?_map]
      exact hu
    · intro l hl
      simp only [List.mem_map, List.mem_range] at hl
      obtain ⟨i, hi, rfl⟩ := hl
      exact (hfn i hi).2
end
end Go.Proofs.Ytehbahobkgoapaa
namespace Go.Proofs.Ytehbahobkgoapaa
open Go Go.RowKit Go.ChangeShapes Go.WideShapes Go.ChangeAt
/-- A call of a log: three numbers and a digest. -/
structure LAct where
  k : Int
  n : Int
  m : Int
  r : List UInt8
instance : Inhabited LAct := ⟨⟨0, 0, 0, []⟩⟩
def LAct.cs (a : LAct) : List Value := [.int .i64 a.k, .int .i64 a.n, .int .i64 a.m] ++ bvs a.r
structure LAct.Ok (a : LAct) : Prop where
  k : -9223372036854775808 ≤ a.k ∧ a.k ≤ 9223372036854775807
  n : -9223372036854775808 ≤ a.n ∧ a.n ≤ 9223372036854775807
  m : -9223372036854775808 ≤ a.m ∧ a.m ≤ 9223372036854775807
  r : a.r.length = 32
theorem LAct.Ok.len {a : LAct} (h : a.Ok) : a.cs.length = 35 := by simp [LAct.cs, bvs, h.r]
/-- The script lies at A. -/
structure LActs (w : World) (A : Option Addr) (n : Nat) (xs : List LAct) : Prop where
  len : xs.length = n
  max : n ≤ 9223372036854775807
  at_ : ∀ i (h : i < xs.length), ∃ ad, A = some ad ∧ Rd w (some (ad.add (i * 35))) xs[i].cs
  ok : ∀ a ∈ xs, a.Ok
theorem LActs.below {w w' : World} {A : Option Addr} {n : Nat} {xs : List LAct} (h : LActs w A n xs) (hb : Below w.heap.size w w') : LActs w' A n xs :=
  ⟨h.len, h.max, fun i hi => by obtain ⟨ad, e, hr⟩ := h.at_ i hi; exact ⟨ad, e, hr.below hb⟩, h.ok⟩
section
variable {H : Type} {enc : TypeId × Value → H} {P : Program} {W : World} {base : Nat}
theorem lact_of {E R : TypeId} {f0 f1 f2 f3 : Field} (he : P.underlying E = some (.struct #[f0, f1, f2, f3]))
    (o0 : f0.offset = 0) (o1 : f1.offset = 1) (o2 : f2.offset = 2) (o3 : f3.offset = 3) (c0 : P.cellsOf f0.type = 1) (c1 : P.cellsOf f1.type = 1) (c2 : P.cellsOf f2.type = 1) (c3 : P.cellsOf f3.type = 32)
    (u0 : P.underlying f0.type = some (.int .i64)) (u1 : P.underlying f1.type = some (.int .i64)) (u2 : P.underlying f2.type = some (.int .i64)) (u3 : P.underlying f3.type = some (.array 32 R)) (uR : P.underlying R = some (.int .u8)) (cR : P.cellsOf R = 1)
    {cs' : List Value} {fuel : Nat} {x : DataW H × List MemPlace} (hlen : cs'.length = 35) (h2 : DataW.trod enc P W 0 (fun _ => true) true fuel E cs' = some x) : ∃ q : LAct, cs' = q.cs ∧ q.Ok := by
  obtain ⟨y0, y1, y2, y3, fu, _, _, t0, t1, t2, t3⟩ := Joins.trod_struct4 he h2
  rw [o0, c0] at t0
  rw [o1, c1] at t1
  rw [o2, c2] at t2
  rw [o3, c3] at t3
  obtain ⟨z0, e0, _, w0⟩ := DataW.trod_int u0 t0
  obtain ⟨z1, e1, _, w1⟩ := DataW.trod_int u1 t1
  obtain ⟨z2, e2, _, w2⟩ := DataW.trod_int u2 t2
  obtain ⟨r, hr, e3⟩ := arr_bytes u3 uR cR (by rw [List.length_take, List.length_drop]; omega) t3
  have ecs : cs' = (⟨z0, z1, z2, r⟩ : LAct).cs := by
    match cs', hlen with
    | x0 :: x1 :: x2 :: rest, hl =>
      have hr : rest.length = 32 := by simpa using hl
      simp only [List.drop_zero, List.take_succ_cons, List.take_zero, List.drop_succ_cons, List.cons.injEq, and_true] at e0 e1 e2 e3
      rw [List.take_of_length_le (by omega)] at e3
      simp [LAct.cs, e0, e1, e2, e3]
  exact ⟨⟨z0, z1, z2, r⟩, ecs, ⟨i64_wf w0, i64_wf w1, i64_wf w2, hr⟩⟩
theorem open_lacts {T E R : TypeId} {f0 f1 f2 f3 : Field} (ht : P.underlying T = some (.slice E)) (he : P.underlying E = some (.struct #[f0, f1, f2, f3])) (cE : P.cellsOf E = 35)
    (o0 : f0.offset = 0) (o1 : f1.offset = 1) (o2 : f2.offset = 2) (o3 : f3.offset = 3) (c0 : P.cellsOf f0.type = 1) (c1 : P.cellsOf f1.type = 1) (c2 : P.cellsOf f2.type = 1) (c3 : P.cellsOf f3.type = 32)
    (u0 : P.underlying f0.type = some (.int .i64)) (u1 : P.underlying f1.type = some (.int .i64)) (u2 : P.underlying f2.type = some (.int .i64)) (u3 : P.underlying f3.type = some (.array 32 R)) (uR : P.underlying R = some (.int .u8)) (cR : P.cellsOf R = 1)
    {v : Value} {d : DataW H} {p : List MemPlace} (hv : Value.okWide P W .any base T v) (h : DataW.Trod enc P W 0 (fun _ => true) true T v d p) :
    ∃ A n c xs, v = .slice A n c ∧ LActs W A n xs := by
  obtain ⟨A, n, c, rfl⟩ := okWide_slice ht hv
  obtain ⟨fuel, hf⟩ := h
  rcases Deep.open_slice ht hf with ⟨hcs, hx⟩ | ⟨a, len, cap, m, k, D, Pl, hcs, _, hl, hm, hmm, hx, hi⟩
  · simp [Value.cells] at hcs
    obtain ⟨rfl, rfl, rfl⟩ := hcs
    exact ⟨none, 0, 0, [], rfl, ⟨rfl, by omega, fun i hi => by simp at hi, by simp⟩⟩
  · simp [Value.cells] at hcs
    obtain ⟨rfl, rfl, rfl⟩ := hcs
    simp only [if_true] at hmm
    subst m
    rw [cE] at hi
    have each : ∀ i, i < n → ∃ q : LAct, Rd W (some (a.add (i * 35))) q.cs ∧ q.Ok := by
      intro i hin
      obtain ⟨cs', h1, h2⟩ := hi i (by omega)
      obtain ⟨_, hlen, h3⟩ := World.cells?_some h1
      obtain ⟨q, ecs, ok⟩ := lact_of he o0 o1 o2 o3 c0 c1 c2 c3 u0 u1 u2 u3 uR cR hlen h2
      refine ⟨q, fun _ => ⟨_, rfl, fun j u hu => ?_⟩, ok⟩
      rw [← ecs] at hu
      have hj := (List.getElem?_eq_some_iff.1 hu).1
      rw [h3 j (by omega)]
      exact hu
    obtain ⟨f, hfn⟩ := Deep.choose_lt each
    refine ⟨some a, n, c, (List.range n).map f, rfl, ⟨by simp, by unfold maxLen at hm; omega, fun i hi' => ⟨a, rfl, ?_⟩, ?_⟩⟩
    · simp only [List.length_map, List.length_range] at hi'
      simpa using (hfn i hi').1
    · intro x hx'
      obtain ⟨i, hi', rfl⟩ := List.mem_map.1 hx'
      exact (hfn i (List.mem_range.1 hi')).2
end
end Go.Proofs.Ytehbahobkgoapaa
namespace Go.Proofs.Ytehbahobkgoapaa
open Go Go.RowKit
set_option linter.unusedSimpArgs false
set_option linter.unusedVariables false
set_option linter.unusedSectionVars false
/-- pv is no log, in every world that meets N. -/
def NoLg (N : World → Prop) (pv : Value) : Prop := ∀ u, N u → Calls Try.prog 154 #[pv] u fun e w' => e = .returned (.bool true) ∧ u = w'
section
variable {N : World → Prop} {pv : Value} (C : NoLg N pv) (w : World) (hN : N w) (hA : ∀ u o, N u → N (u.alloc o))
include C hN
include hA
end
theorem exec_c0 {w : World} {a : Act} {o : Oper} (x : Operand) (ho : o.op = .fieldAddr 141 x 0) (g : Nat) (hx : a.eval x = .pointer (some ⟨g, 0, none⟩)) : (execOp a.eval o).run Try.prog w = .ok (.value (.pointer (some ⟨g, 0, none⟩))) w := by
  unfold execOp
  simp only [ho, hx]
  go_simp
theorem exec_c1 {w : World} {a : Act} {o : Oper} (x : Operand) (ho : o.op = .fieldAddr 141 x 1) (g : Nat) (hx : a.eval x = .pointer (some ⟨g, 0, none⟩)) : (execOp a.eval o).run Try.prog w = .ok (.value (.pointer (some ⟨g, 1, none⟩))) w := by
  unfold execOp
  simp only [ho, hx]
  go_simp
theorem exec_c2 {w : World} {a : Act} {o : Oper} (x : Operand) (ho : o.op = .fieldAddr 141 x 2) (g : Nat) (hx : a.eval x = .pointer (some ⟨g, 0, none⟩)) : (execOp a.eval o).run Try.prog w = .ok (.value (.pointer (some ⟨g, 2, none⟩))) w := by
  unfold execOp
  simp only [ho, hx]
  go_simp
theorem exec_c3 {w : World} {a : Act} {o : Oper} (x : Operand) (ho : o.op = .fieldAddr 141 x 3) (g : Nat) (hx : a.eval x = .pointer (some ⟨g, 0, none⟩)) : (execOp a.eval o).run Try.prog w = .ok (.value (.pointer (some ⟨g, 3, none⟩))) w := by
  unfold execOp
  simp only [ho, hx]
  go_simp
theorem LAct.cells (a : LAct) (ha : a.Ok) {w : World} {g : Nat} (hb : Blk w g 141 a.cs) : w.cell? ⟨g, 0, none⟩ = some (.int .i64 a.k) ∧ w.cell? ⟨g, 1, none⟩ = some (.int .i64 a.n) ∧ w.cell? ⟨g, 2, none⟩ = some (.int .i64 a.m) := ⟨by rw [hb.cell]; rfl, by rw [hb.cell]; rfl, by rw [hb.cell]; rfl⟩
theorem LAct.root (a : LAct) (ha : a.Ok) : (a.cs.drop 3).take 32 = bvs a.r := by
  unfold LAct.cs
  rw [show ([Value.int .i64 a.k, .int .i64 a.n, .int .i64 a.m] ++ bvs a.r).drop 3 = bvs a.r from rfl]
  exact List.take_of_length_le (by rw [bvs_length, ha.r]; omega)
theorem at141 : AT Try.prog 141 35 := ⟨⟨_, Try.underlying141, rfl⟩, by kernel_rfl⟩
end Go.Proofs.Ytehbahobkgoapaa
namespace Go.Proofs.Ytehbahobkgoapaa
open Go Go.RowKit
set_option linter.unusedSimpArgs false
set_option linter.unusedVariables false
/-- Twin logs of the same roots, apart. -/
structure Twin (S T : Nat → Prop) (w : World) (g G : Nat) (rs : List (List UInt8)) : Prop where
  lg : Lg S w g rs
  lr : Lr T w G rs
  ap : ∀ k, S k → ¬ T k
theorem Twin.below {S T : Nat → Prop} {w w' : World} {g G : Nat} {rs : List (List UInt8)} (h : Twin S T w g G rs) (hb : Below w.heap.size w w') : Twin S T w' g G rs := ⟨h.lg.below hb, h.lr.below hb, h.ap⟩
theorem Lg.slt {S : Nat → Prop} {w : World} {g : Nat} {rs : List (List UInt8)} (h : Lg S w g rs) : ∀ k, S k → k < w.heap.size := by
  obtain ⟨_, _, p⟩ := h; exact p.lt
theorem Lr.slt {S : Nat → Prop} {w : World} {g : Nat} {rs : List (List UInt8)} (h : Lr S w g rs) : ∀ k, S k → k < w.heap.size := by
  obtain ⟨_, p⟩ := h; exact p.lt
theorem Twin.fr {S T U : Nat → Prop} {w w' : World} {g G : Nat} {rs : List (List UInt8)} (h : Twin S T w g G rs) (hf : Fr U w w') (hU : ∀ k, U k → w.heap.size ≤ k) : Twin S T w' g G rs :=
  ⟨h.lg.fr hf (fun k s u => by have := h.lg.slt k s; have := hU k u; omega), h.lr.fr hf (fun k s u => by have := h.lr.slt k s; have := hU k u; omega), h.ap⟩
/-- What a call leaves: two logs of the same roots, apart; one root more at most. -/
def ActS (S T : Nat → Prop) (g G : Nat) (rs : List (List UInt8)) (w w' : World) : Prop :=
  ∃ S' T' rs', Twin S' T' w' g G rs' ∧ (∀ k, S' k → S k ∨ w.heap.size ≤ k) ∧ (∀ k, T' k → T k ∨ w.heap.size ≤ k) ∧ rs'.length ≤ rs.length + 1 ∧ Fr (fun k => S k ∨ T k) w w'
theorem ActS.of_below {S T : Nat → Prop} {w w' : World} {g G : Nat} {rs : List (List UInt8)} (h : Twin S T w g G rs) (hb : Below w.heap.size w w') : ActS S T g G rs w w' :=
  ⟨S, T, rs, h.below hb, fun k s => .inl s, fun k s => .inl s, by omega, Fr.of_below hb⟩
theorem twin_add {S T S1 T1 : Nat → Prop} {w w0 w1 w2 : World} {g G : Nat} {rs : List (List UInt8)} {r : List UInt8} (h : Twin S T w g G rs) (h0 : Below w.heap.size w w0) (l1 : Lg S1 w1 g (rs ++ [r])) (s1 : ∀ k, S1 k → S k ∨ w0.heap.size ≤ k) (f1 : Fr S w0 w1)
    (l2 : Lr T1 w2 G (rs ++ [r])) (s2 : ∀ k, T1 k → T k ∨ w1.heap.size ≤ k) (f2 : Fr T w1 w2) : ActS S T g G rs w w2 := by
  have z0 := h0.size
  have z1 := f1.size
  have z2 := f2.size
  refine ⟨S1, T1, rs ++ [r], ⟨l1.fr f2 ?_, l2, ?_⟩, ?_, ?_, by simp, ?_⟩
  · intro k a b
    rcases s1 k a with c | c
    · exact h.ap k c b
    · have := h.lr.slt k b; omega
  · intro k a b
    have a' := l1.slt k a
    rcases s2 k b with d | d
    · rcases s1 k a with c | c
      · exact h.ap k c d
      · have := h.lr.slt k d; omega
    · omega
  · intro k a
    rcases s1 k a with c | c
    · exact .inl c
    · exact .inr (by omega)
  · intro k a
    rcases s2 k a with c | c
    · exact .inl c
    · exact .inr (by omega)
  · have e1 : Fr (fun k => S k ∨ T k) w w1 := (Fr.of_below h0).trans (f1.wide (fun k s => .inl s))
    exact e1.trans (f2.wide (fun k s => .inr s))
theorem Hl.fr {S : Nat → Prop} {w w' : World} {A : Option Addr} {n c : Nat} {ls : List (List UInt8)} (h : Hl w A n c ls) (f : Fr S w w') (hA : ∀ ad, A = some ad → ¬ S ad.block) : Hl w' A n c ls := ⟨h.len, h.cap, h.max, h.rd.fr f hA, h.each⟩
/-- HeadAt tells the same of both. -/
theorem head_both (rs : List (List UInt8)) (z : Int) : ∃ d q, d.length = 32 ∧
    (∀ S g u, Lg S u g rs → Calls Try.prog 117 #[.pointer (some ⟨g, 0, none⟩), .int .i64 z] u fun e w' => e = .returned (.tuple #[.agg (bvs d).toArray, .int .i64 q]) ∧ Below u.heap.size u w') ∧
    (∀ T G u, Lr T u G rs → Calls Try.prog 150 #[.pointer (some ⟨G, 0, none⟩), .int .i64 z] u fun e w' => e = .returned (.tuple #[.agg (bvs d).toArray, .int .i64 q]) ∧ Below u.heap.size u w') := by
  by_cases h : 0 ≤ z ∧ z ≤ (rs.length : Int)
  · obtain ⟨i, rfl⟩ : ∃ i : Nat, z = (i : Int) := ⟨z.toNat, by omega⟩
    exact ⟨_, 0, foldH_len (rs.take i), fun S g u l => headAt_in g rs u l i (by omega), fun T G u l => rhead_in G rs u l i (by omega)⟩
  · exact ⟨_, 7, zb_length 32, fun S g u l => headAt_out g rs u l z (by omega), fun T G u l => rhead_out G rs u l z (by omega)⟩
theorem at_both (rs : List (List UInt8)) (he : ∀ l ∈ rs, l.length = 32) (z : Int) : ∃ d q, d.length = 32 ∧
    (∀ S g u, Lg S u g rs → Calls Try.prog 121 #[.pointer (some ⟨g, 0, none⟩), .int .i64 z] u fun e w' => e = .returned (.tuple #[.agg (bvs d).toArray, .int .i64 q]) ∧ Below u.heap.size u w') ∧
    (∀ T G u, Lr T u G rs → Calls Try.prog 151 #[.pointer (some ⟨G, 0, none⟩), .int .i64 z] u fun e w' => e = .returned (.tuple #[.agg (bvs d).toArray, .int .i64 q]) ∧ Below u.heap.size u w') := by
  by_cases h : 0 ≤ z ∧ z < (rs.length : Int)
  · obtain ⟨i, rfl⟩ : ∃ i : Nat, z = (i : Int) := ⟨z.toNat, by omega⟩
    have hi : i < rs.length := by omega
    refine ⟨rs.getD i [], 0, ?_, fun S g u l => at_in g rs u l i hi, fun T G u l => rat_in G rs u l i hi⟩
    rw [List.getD_eq_getElem?_getD, List.getElem?_eq_getElem hi]
    exact he _ (List.getElem_mem hi)
  · exact ⟨_, 7, zb_length 32, fun S g u l => at_out g rs u l z (by omega), fun T G u l => rat_out G rs u l z (by omega)⟩
/-- Roots tells the same of both: the log's are a list of the call's own. -/
theorem roots_both (rs : List (List UInt8)) (he : ∀ l ∈ rs, l.length = 32) (x y : Int) : ∃ k ls q,
    (∀ S g u, Lg S u g rs → Calls Try.prog 118 #[.pointer (some ⟨g, 0, none⟩), .int .i64 x, .int .i64 y] u fun e w' => ∃ A c, e = .returned (.tuple #[.slice A k c, .int .i64 q]) ∧ Hl w' A k c ls ∧ (∀ ad, A = some ad → u.heap.size ≤ ad.block) ∧
      (0 < k → ∃ gx cs, A = some ⟨gx, 0, none⟩ ∧ Blk w' gx 25 cs ∧ k * 32 ≤ cs.length ∧ u.heap.size ≤ gx) ∧ Below u.heap.size u w') ∧
    (∀ T G u, Lr T u G rs → Calls Try.prog 152 #[.pointer (some ⟨G, 0, none⟩), .int .i64 x, .int .i64 y] u fun e w' => ∃ A c, e = .returned (.tuple #[.slice A k c, .int .i64 q]) ∧ Hl w' A k c ls ∧ (∀ ad, A = some ad → T ad.block) ∧ u = w') := by
  by_cases h : 0 ≤ x ∧ y ≤ (rs.length : Int) ∧ x ≤ y
  · obtain ⟨l, rfl⟩ : ∃ i : Nat, x = (i : Int) := ⟨x.toNat, by omega⟩
    obtain ⟨m, rfl⟩ : ∃ i : Nat, y = (i : Int) := ⟨y.toNat, by omega⟩
    refine ⟨m - l, midL rs l m, 0, fun S g u lg => ?_, fun T G u lr => rroots_in G rs u lr l m (by omega) (by omega)⟩
    refine (roots_in g rs u lg l m (by omega) (by omega)).mono ?_
    rintro e w' ⟨v, rfl, ho, hb⟩
    have ho' := ho
    obtain ⟨A, c, rfl, hh⟩ := own_hl ho (midL_length rs l m rs.length rfl (by omega) (by omega)) (fun z hz => he z (List.mem_of_mem_drop (List.mem_of_mem_take hz)))
    obtain ⟨_, h⟩ := ho'
    rcases h with ⟨e, _⟩ | ⟨g', cap, cur, e, hg, hc, hn, hm, hs, ht⟩
    · injection e with e1 e2 e3
      subst e1
      refine ⟨none, c, rfl, hh, fun ad e => (by cases e), fun h0 => by omega, hb⟩
    · injection e with e1 e2 e3
      subst e1
      refine ⟨_, c, rfl, hh, fun ad e => ?_, fun h0 => ⟨g', cur.toList, rfl, by simpa [Blk] using hc, ?_, hg⟩, hb⟩
      · rw [← Option.some.inj e]; exact hg
      · simp [hs]; exact Nat.mul_le_mul_right _ hn
  · refine ⟨0, [], 2, fun S g u lg => ?_, fun T G u lr => ?_⟩
    · refine (roots_out g rs u lg x y (by omega)).mono ?_
      rintro e w' ⟨rfl, rfl⟩
      exact ⟨none, 0, rfl, ⟨rfl, by omega, by omega, Rd.nil _ _, by simp⟩, fun ad e => (by cases e), fun h => by omega, Below.refl _ _⟩
    · refine (rroots_out G rs u lr x y (by omega)).mono ?_
      rintro e w' ⟨rfl, rfl⟩
      exact ⟨none, 0, rfl, ⟨rfl, by omega, by omega, Rd.nil _ _, by simp⟩, fun ad e => (by cases e), rfl⟩
end Go.Proofs.Ytehbahobkgoapaa
namespace Go.Proofs.Ytehbahobkgoapaa
open Go Go.RowKit
set_option linter.unusedSimpArgs false
set_option linter.unusedVariables false
set_option maxRecDepth 100000 in
set_option maxHeartbeats 4000000 in
theorem act_add {S T : Nat → Prop} (g G : Nat) (rs : List (List UInt8)) (a : LAct) (ha : a.Ok) (hk : a.k = 0) (w : World) (h : Twin S T w g G rs) (hf : rs.length < 4096) :
    Calls Try.prog 115 #[.pointer (some ⟨g, 0, none⟩), .pointer (some ⟨G, 0, none⟩), .agg a.cs.toArray] w fun e w' => e = .returned (.bool true) ∧ ActS S T g G rs w w' := by
  have hbz : Blk (w.alloc (.cells a.cs.toArray 141)) w.heap.size 141 a.cs := Blk.new _ _ _
  have hw0 : Below w.heap.size w (w.alloc (.cells a.cs.toArray 141)) := (Below.refl _ _).alloc (Nat.le_refl _) _
  have HR := Lib.hid (a.root ha)
  have HL := Lib.hid ha.r
  have HC := fun (u : World) (g : Nat) (hb : Blk u g 141 a.cs) => Lib.hid (a.cells ha hb)
  have z25 : ∀ u : World, Hid (Blk (u.alloc (.cells (bvs (zb 32)).toArray 25)) u.heap.size 25 (bvs (zb 32))) := fun u => Lib.hid (Blk.new _ _ _)
  have HE : Hid (∀ l ∈ rs, l.length = 32) := Lib.hid (by obtain ⟨_, _, p⟩ := h.lg; exact p.each)
  have A1 := fun (u : World) (q : Lg S u g rs) => Lib.hid (add_is g rs a.r u q ha.r hf ((rs.length : Int) + 1) (by simp))
  have A2 := fun (u : World) (q : Lr T u G rs) => Lib.hid (radd_any G rs a.r u q ha.r hf)
  generalize a.cs = cs at *
  generalize a.r = r at *
  generalize a.n = an at *
  generalize a.m = am at *
  generalize a.k = ak at *
  clear ha
  obtain rfl : ak = 0 := hk
  unfold arr8 at *
  go_enter Try.func115, Try.ntmps115
  go_upto_region 1 with fail
  generalize hW : World.alloc w _ = w0
  have h3 : Blk w0 w.heap.size 141 cs ∧ Below w.heap.size w w0 := by rw [← hW]; exact ⟨hbz, hw0⟩
  clear hW hbz hw0
  obtain ⟨b0, B0⟩ := h3
  have t0 := h.below B0
  have c0 := HC w0 w.heap.size b0
  refine wp_region_lit ?_
  refine wpList_yield rfl _ (exec_c0 _ rfl w.heap.size rfl) ?_
  simp only [Act.put, List.setIfInBounds_toArray, List.set_cons_zero, List.set_cons_succ]
  refine wpList_yield rfl _ (exec_load3 _ rfl _ _ rfl c0.out.1) ?_
  simp only [Act.put, List.setIfInBounds_toArray, List.set_cons_zero, List.set_cons_succ]
  refine wpList_nil ?_
  go_upto_region 3 with fail
  refine wp_region_lit ?_
  refine wpList_yield rfl _ (exec_move _ rfl) ?_
  simp only [Act.put, Act.eval, Array.getD_eq_getD_getElem?, List.getElem?_toArray, List.getElem?_cons_succ, List.getElem?_cons_zero, Option.getD_some, List.setIfInBounds_toArray, List.set_cons_zero, List.set_cons_succ]
  refine wpList_yield rfl _ (exec_c3 _ rfl w.heap.size rfl) ?_
  simp only [Act.put, List.setIfInBounds_toArray, List.set_cons_zero, List.set_cons_succ]
  refine wpList_yield rfl _ (exec_load_at at25w _ rfl w.heap.size 3 141 cs (bvs r) rfl b0 HR.out (by rw [bvs_length]; exact HL.out)) ?_
  simp only [Act.put, List.setIfInBounds_toArray, List.set_cons_zero, List.set_cons_succ]
  refine wpList_plain rfl fun K hK => ?_; go_simp
  with_reducible refine (A1 _ t0.lg).out.mono ?_
  rintro e w1 ⟨S1, rfl, l1, s1, f1⟩
  refine hK _ _ ?_; clear hK
  (try simp only [Act.put, List.setIfInBounds_toArray, List.set_cons_zero, List.set_cons_succ])
  refine wpList_yield rfl _ (exec_move _ rfl) ?_
  simp only [Act.put, Act.eval, Array.getD_eq_getD_getElem?, List.getElem?_toArray, List.getElem?_cons_succ, List.getElem?_cons_zero, Option.getD_some, List.setIfInBounds_toArray, List.set_cons_zero, List.set_cons_succ]
  refine wpList_yield rfl ?vp1_5 ?yp1_5 ?_
  case yp1_5 => go_simp; try with_reducible rfl
  simp only [Act.put, List.setIfInBounds_toArray, List.set_cons_zero, List.set_cons_succ]
  refine wpList_yield rfl ?vp2_6 ?yp2_6 ?_
  case yp2_6 => go_simp; try with_reducible rfl
  simp only [Act.put, List.setIfInBounds_toArray, List.set_cons_zero, List.set_cons_succ]
  refine wpList_yield rfl _ (exec_assign _ rfl) ?_
  simp only [Act.put, Act.eval, Array.getD_eq_getD_getElem?, List.getElem?_toArray, List.getElem?_cons_succ, List.getElem?_cons_zero, Option.getD_some, List.setIfInBounds_toArray, List.set_cons_zero, List.set_cons_succ]
  refine wpList_yield rfl _ (exec_assign _ rfl) ?_
  simp only [Act.put, Act.eval, Array.getD_eq_getD_getElem?, List.getElem?_toArray, List.getElem?_cons_succ, List.getElem?_cons_zero, Option.getD_some, List.setIfInBounds_toArray, List.set_cons_zero, List.set_cons_succ]
  refine wpList_nil ?_
  have hg1 : w.heap.size < w0.heap.size := b0.lt
  have b1 := b0.fr f1 (fun s => by have := h.lg.slt _ s; omega)
  have r1 := t0.lr.fr f1 (fun k s u => h.ap k u s)
  go_upto_region 4 with fail
  refine wp_region_lit ?_
  refine wpList_yield rfl _ (exec_move _ rfl) ?_
  simp only [Act.put, Act.eval, Array.getD_eq_getD_getElem?, List.getElem?_toArray, List.getElem?_cons_succ, List.getElem?_cons_zero, Option.getD_some, List.setIfInBounds_toArray, List.set_cons_zero, List.set_cons_succ]
  refine wpList_yield rfl _ (exec_c3 _ rfl w.heap.size rfl) ?_
  simp only [Act.put, List.setIfInBounds_toArray, List.set_cons_zero, List.set_cons_succ]
  refine wpList_yield rfl _ (exec_load_at at25w _ rfl w.heap.size 3 141 cs (bvs r) rfl b1 HR.out (by rw [bvs_length]; exact HL.out)) ?_
  simp only [Act.put, List.setIfInBounds_toArray, List.set_cons_zero, List.set_cons_succ]
  refine wpList_plain rfl fun K hK => ?_; go_simp
  with_reducible refine (A2 _ r1).out.mono ?_
  rintro e w2 ⟨T1, rfl, l2, s2, f2⟩
  refine hK _ _ ?_; clear hK
  (try simp only [Act.put, List.setIfInBounds_toArray, List.set_cons_zero, List.set_cons_succ])
  refine wpList_yield rfl _ (exec_move _ rfl) ?_
  simp only [Act.put, Act.eval, Array.getD_eq_getD_getElem?, List.getElem?_toArray, List.getElem?_cons_succ, List.getElem?_cons_zero, Option.getD_some, List.setIfInBounds_toArray, List.set_cons_zero, List.set_cons_succ]
  refine wpList_yield rfl ?vp3_5 ?yp3_5 ?_
  case yp3_5 => go_simp; try with_reducible rfl
  simp only [Act.put, List.setIfInBounds_toArray, List.set_cons_zero, List.set_cons_succ]
  refine wpList_yield rfl ?vp4_6 ?yp4_6 ?_
  case yp4_6 => go_simp; try with_reducible rfl
  simp only [Act.put, List.setIfInBounds_toArray, List.set_cons_zero, List.set_cons_succ]
  refine wpList_yield rfl _ (exec_assign _ rfl) ?_
  simp only [Act.put, Act.eval, Array.getD_eq_getD_getElem?, List.getElem?_toArray, List.getElem?_cons_succ, List.getElem?_cons_zero, Option.getD_some, List.setIfInBounds_toArray, List.set_cons_zero, List.set_cons_succ]
  refine wpList_yield rfl _ (exec_assign _ rfl) ?_
  simp only [Act.put, Act.eval, Array.getD_eq_getD_getElem?, List.getElem?_toArray, List.getElem?_cons_succ, List.getElem?_cons_zero, Option.getD_some, List.setIfInBounds_toArray, List.set_cons_zero, List.set_cons_succ]
  refine wpList_nil ?_
  have HA := Lib.hid (twin_add h B0 l1 s1 f1 l2 s2 f2)
  clear A1 A2 HC HE z25 b0 b1 r1 l1 s1 f1 l2 s2 f2 t0 c0 h
  go_wp2_with fail
  go_ret
  exact ⟨rfl, HA.out⟩
set_option maxRecDepth 100000 in
set_option maxHeartbeats 4000000 in
theorem act_headAt {S T : Nat → Prop} (g G : Nat) (rs : List (List UInt8)) (a : LAct) (ha : a.Ok) (hk : a.k = 1) (w : World) (h : Twin S T w g G rs) (hf : rs.length < 4096) :
    Calls Try.prog 115 #[.pointer (some ⟨g, 0, none⟩), .pointer (some ⟨G, 0, none⟩), .agg a.cs.toArray] w fun e w' => e = .returned (.bool true) ∧ ActS S T g G rs w w' := by
  have hbz : Blk (w.alloc (.cells a.cs.toArray 141)) w.heap.size 141 a.cs := Blk.new _ _ _
  have hw0 : Below w.heap.size w (w.alloc (.cells a.cs.toArray 141)) := (Below.refl _ _).alloc (Nat.le_refl _) _
  have HR := Lib.hid (a.root ha)
  have HL := Lib.hid ha.r
  have HC := fun (u : World) (g : Nat) (hb : Blk u g 141 a.cs) => Lib.hid (a.cells ha hb)
  have z25 : ∀ u : World, Hid (Blk (u.alloc (.cells (bvs (zb 32)).toArray 25)) u.heap.size 25 (bvs (zb 32))) := fun u => Lib.hid (Blk.new _ _ _)
  have HE : Hid (∀ l ∈ rs, l.length = 32) := Lib.hid (by obtain ⟨_, _, p⟩ := h.lg; exact p.each)
  obtain ⟨d, q, hd, D1, D2⟩ := head_both rs a.n
  have HDL := Lib.hid hd
  have A1 := fun (S : Nat → Prop) (g : Nat) (u : World) (l : Lg S u g rs) => Lib.hid (D1 S g u l)
  have A2 := fun (T : Nat → Prop) (G : Nat) (u : World) (l : Lr T u G rs) => Lib.hid (D2 T G u l)
  clear D1 D2 hd
  generalize a.cs = cs at *
  generalize a.r = r at *
  generalize a.n = an at *
  generalize a.m = am at *
  generalize a.k = ak at *
  clear ha
  obtain rfl : ak = 1 := hk
  unfold arr8 at *
  go_enter Try.func115, Try.ntmps115
  go_upto_region 1 with fail
  generalize hW : World.alloc w _ = w0
  have h3 : Blk w0 w.heap.size 141 cs ∧ Below w.heap.size w w0 := by rw [← hW]; exact ⟨hbz, hw0⟩
  clear hW hbz hw0
  obtain ⟨b0, B0⟩ := h3
  have t0 := h.below B0
  have c0 := HC w0 w.heap.size b0
  refine wp_region_lit ?_
  refine wpList_yield rfl _ (exec_c0 _ rfl w.heap.size rfl) ?_
  simp only [Act.put, List.setIfInBounds_toArray, List.set_cons_zero, List.set_cons_succ]
  refine wpList_yield rfl _ (exec_load3 _ rfl _ _ rfl c0.out.1) ?_
  simp only [Act.put, List.setIfInBounds_toArray, List.set_cons_zero, List.set_cons_succ]
  refine wpList_nil ?_
  go_upto_region 7 with fail
  refine wp_region_lit ?_
  refine wpList_yield rfl _ (exec_move _ rfl) ?_
  simp only [Act.put, Act.eval, Array.getD_eq_getD_getElem?, List.getElem?_toArray, List.getElem?_cons_succ, List.getElem?_cons_zero, Option.getD_some, List.setIfInBounds_toArray, List.set_cons_zero, List.set_cons_succ]
  refine wpList_yield rfl _ (exec_c1 _ rfl w.heap.size rfl) ?_
  simp only [Act.put, List.setIfInBounds_toArray, List.set_cons_zero, List.set_cons_succ]
  refine wpList_yield rfl _ (exec_load3 _ rfl _ _ rfl c0.out.2.1) ?_
  simp only [Act.put, List.setIfInBounds_toArray, List.set_cons_zero, List.set_cons_succ]
  refine wpList_plain rfl fun K hK => ?_; go_simp
  with_reducible refine (A1 _ _ _ t0.lg).out.mono ?_
  rintro e w1 ⟨rfl, V1⟩
  refine hK _ _ ?_; clear hK
  (try simp only [Act.put, List.setIfInBounds_toArray, List.set_cons_zero, List.set_cons_succ])
  refine wpList_yield rfl _ (exec_move _ rfl) ?_
  simp only [Act.put, Act.eval, Array.getD_eq_getD_getElem?, List.getElem?_toArray, List.getElem?_cons_succ, List.getElem?_cons_zero, Option.getD_some, List.setIfInBounds_toArray, List.set_cons_zero, List.set_cons_succ]
  refine wpList_yield rfl ?vp5_5 ?yp5_5 ?_
  case yp5_5 => go_simp; try with_reducible rfl
  simp only [Act.put, List.setIfInBounds_toArray, List.set_cons_zero, List.set_cons_succ]
  refine wpList_yield rfl ?vp6_6 ?yp6_6 ?_
  case yp6_6 => go_simp; try with_reducible rfl
  simp only [Act.put, List.setIfInBounds_toArray, List.set_cons_zero, List.set_cons_succ]
  refine wpList_plain rfl fun K hK => ?_; go_simp
  refine hK _ _ ?_; clear hK
  (try simp only [Act.put, List.setIfInBounds_toArray, List.set_cons_zero, List.set_cons_succ])
  refine wpList_store_at at25w.i rfl (.tmp 11) (.tmp 67) rfl w1.heap.size 0 25 (bvs (zb 32)) (bvs d) rfl rfl (z25 w1).out (by rw [bvs_length]; exact HDL.out) (by rw [bvs_length, zb_length]; omega) (bvs_one _) ?_
  intro w2 x2 g2 s2
  (try simp only [Act.put, List.setIfInBounds_toArray, List.set_cons_zero, List.set_cons_succ])
  refine wpList_yield rfl _ (exec_assign _ rfl) ?_
  simp only [Act.put, Act.eval, Array.getD_eq_getD_getElem?, List.getElem?_toArray, List.getElem?_cons_succ, List.getElem?_cons_zero, Option.getD_some, List.setIfInBounds_toArray, List.set_cons_zero, List.set_cons_succ]
  refine wpList_nil ?_
  rw [splice_all _ _ (by rw [bvs_length, bvs_length, zb_length]; exact HDL.out.symm)] at x2
  have V2 : Below w0.heap.size w0 w2 := (V1.alloc V1.size (.cells (bvs (zb 32)).toArray 25)).grown g2 (by have := V1.size; simp; omega) (by intro k hk; cases hk; exact V1.size)
  have B2 := bthen B0 V2 B0.size
  have t2 := t0.below V2
  have b2 := b0.below V2 b0.lt
  have c2 := HC w2 w.heap.size b2
  clear V1 g2 s2 V2 t0 b0 c0 A1
  generalize w1.heap.size = G1 at *
  go_upto_region 8 with fail
  refine wp_region_lit ?_
  refine wpList_yield rfl _ (exec_move _ rfl) ?_
  simp only [Act.put, Act.eval, Array.getD_eq_getD_getElem?, List.getElem?_toArray, List.getElem?_cons_succ, List.getElem?_cons_zero, Option.getD_some, List.setIfInBounds_toArray, List.set_cons_zero, List.set_cons_succ]
  refine wpList_yield rfl _ (exec_c1 _ rfl w.heap.size rfl) ?_
  simp only [Act.put, List.setIfInBounds_toArray, List.set_cons_zero, List.set_cons_succ]
  refine wpList_yield rfl _ (exec_load3 _ rfl _ _ rfl c2.out.2.1) ?_
  simp only [Act.put, List.setIfInBounds_toArray, List.set_cons_zero, List.set_cons_succ]
  refine wpList_plain rfl fun K hK => ?_; go_simp
  with_reducible refine (A2 _ _ _ t2.lr).out.mono ?_
  rintro e w3 ⟨rfl, V3⟩
  refine hK _ _ ?_; clear hK
  (try simp only [Act.put, List.setIfInBounds_toArray, List.set_cons_zero, List.set_cons_succ])
  refine wpList_yield rfl _ (exec_move _ rfl) ?_
  simp only [Act.put, Act.eval, Array.getD_eq_getD_getElem?, List.getElem?_toArray, List.getElem?_cons_succ, List.getElem?_cons_zero, Option.getD_some, List.setIfInBounds_toArray, List.set_cons_zero, List.set_cons_succ]
  refine wpList_yield rfl ?vp7_5 ?yp7_5 ?_
  case yp7_5 => go_simp; try with_reducible rfl
  simp only [Act.put, List.setIfInBounds_toArray, List.set_cons_zero, List.set_cons_succ]
  refine wpList_yield rfl ?vp8_6 ?yp8_6 ?_
  case yp8_6 => go_simp; try with_reducible rfl
  simp only [Act.put, List.setIfInBounds_toArray, List.set_cons_zero, List.set_cons_succ]
  refine wpList_plain rfl fun K hK => ?_; go_simp
  refine hK _ _ ?_; clear hK
  (try simp only [Act.put, List.setIfInBounds_toArray, List.set_cons_zero, List.set_cons_succ])
  refine wpList_store_at at25w.i rfl (.tmp 13) (.tmp 74) rfl w3.heap.size 0 25 (bvs (zb 32)) (bvs d) rfl rfl (z25 w3).out (by rw [bvs_length]; exact HDL.out) (by rw [bvs_length, zb_length]; omega) (bvs_one _) ?_
  intro w4 x4 g4 s4
  (try simp only [Act.put, List.setIfInBounds_toArray, List.set_cons_zero, List.set_cons_succ])
  refine wpList_yield rfl _ (exec_assign _ rfl) ?_
  simp only [Act.put, Act.eval, Array.getD_eq_getD_getElem?, List.getElem?_toArray, List.getElem?_cons_succ, List.getElem?_cons_zero, Option.getD_some, List.setIfInBounds_toArray, List.set_cons_zero, List.set_cons_succ]
  refine wpList_nil ?_
  rw [splice_all _ _ (by rw [bvs_length, bvs_length, zb_length]; exact HDL.out.symm)] at x4
  have V4 : Below w2.heap.size w2 w4 := (V3.alloc V3.size (.cells (bvs (zb 32)).toArray 25)).grown g4 (by have := V3.size; simp; omega) (by intro k hk; cases hk; exact V3.size)
  have B4 := bthen B2 V4 B2.size
  have t4 := t2.below V4
  have x5 := x2.below V4 x2.lt
  clear V3 g4 s4 V4 t2 b2 c2 A2 x2 z25
  generalize w3.heap.size = G3 at *
  have HA := Lib.hid (ActS.of_below h B4)
  clear HC HE t4 h B0 B2
  go_upto_region 9 with fail
  refine wp_region_lit ?_
  refine wpList_yield rfl _ (exec_load_agg at25w (.tmp 11) rfl G1 25 (bvs d) rfl x5 (by rw [bvs_length]; exact HDL.out)) ?_
  simp only [Act.put, List.setIfInBounds_toArray, List.set_cons_zero, List.set_cons_succ]
  refine wpList_yield rfl _ (exec_load_agg at25w (.tmp 13) rfl G3 25 (bvs d) rfl x4 (by rw [bvs_length]; exact HDL.out)) ?_
  simp only [Act.put, List.setIfInBounds_toArray, List.set_cons_zero, List.set_cons_succ]
  refine wpList_yield rfl _ (exec_eql_same ab25 _ _ rfl d rfl rfl HDL.out) ?_
  simp only [Act.put, List.setIfInBounds_toArray, List.set_cons_zero, List.set_cons_succ]
  refine wpList_yield rfl _ (exec_move _ rfl) ?_
  simp only [Act.put, Act.eval, Array.getD_eq_getD_getElem?, List.getElem?_toArray, List.getElem?_cons_succ, List.getElem?_cons_zero, Option.getD_some, List.setIfInBounds_toArray, List.set_cons_zero, List.set_cons_succ]
  refine wpList_yield_w rfl _ (exec_move _ rfl) ?_
  simp only [Act.put, Act.eval, Array.getD_eq_getD_getElem?, List.getElem?_toArray, List.getElem?_cons_succ, List.getElem?_cons_zero, Option.getD_some, List.setIfInBounds_toArray, List.set_cons_zero, List.set_cons_succ]
  refine wpList_yield_w rfl _ (exec_move _ rfl) ?_
  simp only [Act.put, Act.eval, Array.getD_eq_getD_getElem?, List.getElem?_toArray, List.getElem?_cons_succ, List.getElem?_cons_zero, Option.getD_some, List.setIfInBounds_toArray, List.set_cons_zero, List.set_cons_succ]
  refine wpList_yield_w rfl ?vp9_6 ?yp9_6 ?_
  case yp9_6 => go_simp; try with_reducible rfl
  simp only [Act.put, List.setIfInBounds_toArray, List.set_cons_zero, List.set_cons_succ]
  refine wpList_yield rfl ?vp10_7 ?yp10_7 ?_
  case yp10_7 => go_simp; try with_reducible rfl
  simp only [Act.put, List.setIfInBounds_toArray, List.set_cons_zero, List.set_cons_succ]
  refine wpList_yield rfl _ (exec_assign _ rfl) ?_
  simp only [Act.put, Act.eval, Array.getD_eq_getD_getElem?, List.getElem?_toArray, List.getElem?_cons_succ, List.getElem?_cons_zero, Option.getD_some, List.setIfInBounds_toArray, List.set_cons_zero, List.set_cons_succ]
  refine wpList_nil ?_
  go_wp2_with fail
  go_ret
  exact ⟨rfl, HA.out⟩
set_option maxRecDepth 100000 in
set_option maxHeartbeats 4000000 in
theorem act_at {S T : Nat → Prop} (g G : Nat) (rs : List (List UInt8)) (a : LAct) (ha : a.Ok) (hk : a.k = 2) (w : World) (h : Twin S T w g G rs) (hf : rs.length < 4096) :
    Calls Try.prog 115 #[.pointer (some ⟨g, 0, none⟩), .pointer (some ⟨G, 0, none⟩), .agg a.cs.toArray] w fun e w' => e = .returned (.bool true) ∧ ActS S T g G rs w w' := by
  have hbz : Blk (w.alloc (.cells a.cs.toArray 141)) w.heap.size 141 a.cs := Blk.new _ _ _
  have hw0 : Below w.heap.size w (w.alloc (.cells a.cs.toArray 141)) := (Below.refl _ _).alloc (Nat.le_refl _) _
  have HR := Lib.hid (a.root ha)
  have HL := Lib.hid ha.r
  have HC := fun (u : World) (g : Nat) (hb : Blk u g 141 a.cs) => Lib.hid (a.cells ha hb)
  have z25 : ∀ u : World, Hid (Blk (u.alloc (.cells (bvs (zb 32)).toArray 25)) u.heap.size 25 (bvs (zb 32))) := fun u => Lib.hid (Blk.new _ _ _)
  have HE : Hid (∀ l ∈ rs, l.length = 32) := Lib.hid (by obtain ⟨_, _, p⟩ := h.lg; exact p.each)
  obtain ⟨d, q, hd, D1, D2⟩ := at_both rs HE.out a.n
  have HDL := Lib.hid hd
  have A1 := fun (S : Nat → Prop) (g : Nat) (u : World) (l : Lg S u g rs) => Lib.hid (D1 S g u l)
  have A2 := fun (T : Nat → Prop) (G : Nat) (u : World) (l : Lr T u G rs) => Lib.hid (D2 T G u l)
  clear D1 D2 hd
  generalize a.cs = cs at *
  generalize a.r = r at *
  generalize a.n = an at *
  generalize a.m = am at *
  generalize a.k = ak at *
  clear ha
  obtain rfl : ak = 2 := hk
  unfold arr8 at *
  go_enter Try.func115, Try.ntmps115
  go_upto_region 1 with fail
  generalize hW : World.alloc w _ = w0
  have h3 : Blk w0 w.heap.size 141 cs ∧ Below w.heap.size w w0 := by rw [← hW]; exact ⟨hbz, hw0⟩
  clear hW hbz hw0
  obtain ⟨b0, B0⟩ := h3
  have t0 := h.below B0
  have c0 := HC w0 w.heap.size b0
  refine wp_region_lit ?_
  refine wpList_yield rfl _ (exec_c0 _ rfl w.heap.size rfl) ?_
  simp only [Act.put, List.setIfInBounds_toArray, List.set_cons_zero, List.set_cons_succ]
  refine wpList_yield rfl _ (exec_load3 _ rfl _ _ rfl c0.out.1) ?_
  simp only [Act.put, List.setIfInBounds_toArray, List.set_cons_zero, List.set_cons_succ]
  refine wpList_nil ?_
  go_upto_region 11 with fail
  refine wp_region_lit ?_
  refine wpList_yield rfl _ (exec_move _ rfl) ?_
  simp only [Act.put, Act.eval, Array.getD_eq_getD_getElem?, List.getElem?_toArray, List.getElem?_cons_succ, List.getElem?_cons_zero, Option.getD_some, List.setIfInBounds_toArray, List.set_cons_zero, List.set_cons_succ]
  refine wpList_yield rfl _ (exec_c1 _ rfl w.heap.size rfl) ?_
  simp only [Act.put, List.setIfInBounds_toArray, List.set_cons_zero, List.set_cons_succ]
  refine wpList_yield rfl _ (exec_load3 _ rfl _ _ rfl c0.out.2.1) ?_
  simp only [Act.put, List.setIfInBounds_toArray, List.set_cons_zero, List.set_cons_succ]
  refine wpList_plain rfl fun K hK => ?_; go_simp
  with_reducible refine (A1 _ _ _ t0.lg).out.mono ?_
  rintro e w1 ⟨rfl, V1⟩
  refine hK _ _ ?_; clear hK
  (try simp only [Act.put, List.setIfInBounds_toArray, List.set_cons_zero, List.set_cons_succ])
  refine wpList_yield rfl _ (exec_move _ rfl) ?_
  simp only [Act.put, Act.eval, Array.getD_eq_getD_getElem?, List.getElem?_toArray, List.getElem?_cons_succ, List.getElem?_cons_zero, Option.getD_some, List.setIfInBounds_toArray, List.set_cons_zero, List.set_cons_succ]
  refine wpList_yield rfl ?vp11_5 ?yp11_5 ?_
  case yp11_5 => go_simp; try with_reducible rfl
  simp only [Act.put, List.setIfInBounds_toArray, List.set_cons_zero, List.set_cons_succ]
  refine wpList_yield rfl ?vp12_6 ?yp12_6 ?_
  case yp12_6 => go_simp; try with_reducible rfl
  simp only [Act.put, List.setIfInBounds_toArray, List.set_cons_zero, List.set_cons_succ]
  refine wpList_plain rfl fun K hK => ?_; go_simp
  refine hK _ _ ?_; clear hK
  (try simp only [Act.put, List.setIfInBounds_toArray, List.set_cons_zero, List.set_cons_succ])
  refine wpList_store_at at25w.i rfl (.tmp 15) (.tmp 91) rfl w1.heap.size 0 25 (bvs (zb 32)) (bvs d) rfl rfl (z25 w1).out (by rw [bvs_length]; exact HDL.out) (by rw [bvs_length, zb_length]; omega) (bvs_one _) ?_
  intro w2 x2 g2 s2
  (try simp only [Act.put, List.setIfInBounds_toArray, List.set_cons_zero, List.set_cons_succ])
  refine wpList_yield rfl _ (exec_assign _ rfl) ?_
  simp only [Act.put, Act.eval, Array.getD_eq_getD_getElem?, List.getElem?_toArray, List.getElem?_cons_succ, List.getElem?_cons_zero, Option.getD_some, List.setIfInBounds_toArray, List.set_cons_zero, List.set_cons_succ]
  refine wpList_nil ?_
  rw [splice_all _ _ (by rw [bvs_length, bvs_length, zb_length]; exact HDL.out.symm)] at x2
  have V2 : Below w0.heap.size w0 w2 := (V1.alloc V1.size (.cells (bvs (zb 32)).toArray 25)).grown g2 (by have := V1.size; simp; omega) (by intro k hk; cases hk; exact V1.size)
  have B2 := bthen B0 V2 B0.size
  have t2 := t0.below V2
  have b2 := b0.below V2 b0.lt
  have c2 := HC w2 w.heap.size b2
  clear V1 g2 s2 V2 t0 b0 c0 A1
  generalize w1.heap.size = G1 at *
  go_upto_region 12 with fail
  refine wp_region_lit ?_
  refine wpList_yield rfl _ (exec_move _ rfl) ?_
  simp only [Act.put, Act.eval, Array.getD_eq_getD_getElem?, List.getElem?_toArray, List.getElem?_cons_succ, List.getElem?_cons_zero, Option.getD_some, List.setIfInBounds_toArray, List.set_cons_zero, List.set_cons_succ]
  refine wpList_yield rfl _ (exec_c1 _ rfl w.heap.size rfl) ?_
  simp only [Act.put, List.setIfInBounds_toArray, List.set_cons_zero, List.set_cons_succ]
  refine wpList_yield rfl _ (exec_load3 _ rfl _ _ rfl c2.out.2.1) ?_
  simp only [Act.put, List.setIfInBounds_toArray, List.set_cons_zero, List.set_cons_succ]
  refine wpList_plain rfl fun K hK => ?_; go_simp
  with_reducible refine (A2 _ _ _ t2.lr).out.mono ?_
  rintro e w3 ⟨rfl, V3⟩
  refine hK _ _ ?_; clear hK
  (try simp only [Act.put, List.setIfInBounds_toArray, List.set_cons_zero, List.set_cons_succ])
  refine wpList_yield rfl _ (exec_move _ rfl) ?_
  simp only [Act.put, Act.eval, Array.getD_eq_getD_getElem?, List.getElem?_toArray, List.getElem?_cons_succ, List.getElem?_cons_zero, Option.getD_some, List.setIfInBounds_toArray, List.set_cons_zero, List.set_cons_succ]
  refine wpList_yield rfl ?vp13_5 ?yp13_5 ?_
  case yp13_5 => go_simp; try with_reducible rfl
  simp only [Act.put, List.setIfInBounds_toArray, List.set_cons_zero, List.set_cons_succ]
  refine wpList_yield rfl ?vp14_6 ?yp14_6 ?_
  case yp14_6 => go_simp; try with_reducible rfl
  simp only [Act.put, List.setIfInBounds_toArray, List.set_cons_zero, List.set_cons_succ]
  refine wpList_plain rfl fun K hK => ?_; go_simp
  refine hK _ _ ?_; clear hK
  (try simp only [Act.put, List.setIfInBounds_toArray, List.set_cons_zero, List.set_cons_succ])
  refine wpList_store_at at25w.i rfl (.tmp 17) (.tmp 98) rfl w3.heap.size 0 25 (bvs (zb 32)) (bvs d) rfl rfl (z25 w3).out (by rw [bvs_length]; exact HDL.out) (by rw [bvs_length, zb_length]; omega) (bvs_one _) ?_
  intro w4 x4 g4 s4
  (try simp only [Act.put, List.setIfInBounds_toArray, List.set_cons_zero, List.set_cons_succ])
  refine wpList_yield rfl _ (exec_assign _ rfl) ?_
  simp only [Act.put, Act.eval, Array.getD_eq_getD_getElem?, List.getElem?_toArray, List.getElem?_cons_succ, List.getElem?_cons_zero, Option.getD_some, List.setIfInBounds_toArray, List.set_cons_zero, List.set_cons_succ]
  refine wpList_nil ?_
  rw [splice_all _ _ (by rw [bvs_length, bvs_length, zb_length]; exact HDL.out.symm)] at x4
  have V4 : Below w2.heap.size w2 w4 := (V3.alloc V3.size (.cells (bvs (zb 32)).toArray 25)).grown g4 (by have := V3.size; simp; omega) (by intro k hk; cases hk; exact V3.size)
  have B4 := bthen B2 V4 B2.size
  have t4 := t2.below V4
  have x5 := x2.below V4 x2.lt
  clear V3 g4 s4 V4 t2 b2 c2 A2 x2 z25
  generalize w3.heap.size = G3 at *
  have HA := Lib.hid (ActS.of_below h B4)
  clear HC HE t4 h B0 B2
  go_upto_region 13 with fail
  refine wp_region_lit ?_
  refine wpList_yield rfl _ (exec_load_agg at25w (.tmp 15) rfl G1 25 (bvs d) rfl x5 (by rw [bvs_length]; exact HDL.out)) ?_
  simp only [Act.put, List.setIfInBounds_toArray, List.set_cons_zero, List.set_cons_succ]
  refine wpList_yield rfl _ (exec_load_agg at25w (.tmp 17) rfl G3 25 (bvs d) rfl x4 (by rw [bvs_length]; exact HDL.out)) ?_
  simp only [Act.put, List.setIfInBounds_toArray, List.set_cons_zero, List.set_cons_succ]
  refine wpList_yield rfl _ (exec_eql_same ab25 _ _ rfl d rfl rfl HDL.out) ?_
  simp only [Act.put, List.setIfInBounds_toArray, List.set_cons_zero, List.set_cons_succ]
  refine wpList_yield rfl _ (exec_move _ rfl) ?_
  simp only [Act.put, Act.eval, Array.getD_eq_getD_getElem?, List.getElem?_toArray, List.getElem?_cons_succ, List.getElem?_cons_zero, Option.getD_some, List.setIfInBounds_toArray, List.set_cons_zero, List.set_cons_succ]
  refine wpList_yield_w rfl _ (exec_move _ rfl) ?_
  simp only [Act.put, Act.eval, Array.getD_eq_getD_getElem?, List.getElem?_toArray, List.getElem?_cons_succ, List.getElem?_cons_zero, Option.getD_some, List.setIfInBounds_toArray, List.set_cons_zero, List.set_cons_succ]
  refine wpList_yield_w rfl _ (exec_move _ rfl) ?_
  simp only [Act.put, Act.eval, Array.getD_eq_getD_getElem?, List.getElem?_toArray, List.getElem?_cons_succ, List.getElem?_cons_zero, Option.getD_some, List.setIfInBounds_toArray, List.set_cons_zero, List.set_cons_succ]
  refine wpList_yield_w rfl ?vp15_6 ?yp15_6 ?_
  case yp15_6 => go_simp; try with_reducible rfl
  simp only [Act.put, List.setIfInBounds_toArray, List.set_cons_zero, List.set_cons_succ]
  refine wpList_yield rfl ?vp16_7 ?yp16_7 ?_
  case yp16_7 => go_simp; try with_reducible rfl
  simp only [Act.put, List.setIfInBounds_toArray, List.set_cons_zero, List.set_cons_succ]
  refine wpList_yield rfl _ (exec_assign _ rfl) ?_
  simp only [Act.put, Act.eval, Array.getD_eq_getD_getElem?, List.getElem?_toArray, List.getElem?_cons_succ, List.getElem?_cons_zero, Option.getD_some, List.setIfInBounds_toArray, List.set_cons_zero, List.set_cons_succ]
  refine wpList_nil ?_
  go_wp2_with fail
  go_ret
  exact ⟨rfl, HA.out⟩
set_option maxRecDepth 100000 in
set_option maxHeartbeats 4000000 in
theorem act_find {S T : Nat → Prop} (g G : Nat) (rs : List (List UInt8)) (a : LAct) (ha : a.Ok) (hk : a.k = 4) (w : World) (h : Twin S T w g G rs) (hf : rs.length < 4096) :
    Calls Try.prog 115 #[.pointer (some ⟨g, 0, none⟩), .pointer (some ⟨G, 0, none⟩), .agg a.cs.toArray] w fun e w' => e = .returned (.bool true) ∧ ActS S T g G rs w w' := by
  have hbz : Blk (w.alloc (.cells a.cs.toArray 141)) w.heap.size 141 a.cs := Blk.new _ _ _
  have hw0 : Below w.heap.size w (w.alloc (.cells a.cs.toArray 141)) := (Below.refl _ _).alloc (Nat.le_refl _) _
  have HR := Lib.hid (a.root ha)
  have HL := Lib.hid ha.r
  have HC := fun (u : World) (g : Nat) (hb : Blk u g 141 a.cs) => Lib.hid (a.cells ha hb)
  have z25 : ∀ u : World, Hid (Blk (u.alloc (.cells (bvs (zb 32)).toArray 25)) u.heap.size 25 (bvs (zb 32))) := fun u => Lib.hid (Blk.new _ _ _)
  have HE : Hid (∀ l ∈ rs, l.length = 32) := Lib.hid (by obtain ⟨_, _, p⟩ := h.lg; exact p.each)
  obtain ⟨d, q, hd, D1, D2⟩ := head_both rs a.n
  have HDL := Lib.hid hd
  have A2 := fun (T : Nat → Prop) (G : Nat) (u : World) (l : Lr T u G rs) => Lib.hid (D2 T G u l)
  clear D1 D2 hd
  have F1 := fun (S : Nat → Prop) (g : Nat) (u : World) (l : Lg S u g rs) => Lib.hid (find_any g rs a.r u l HL.out)
  have F2 := fun (T : Nat → Prop) (G : Nat) (u : World) (l : Lr T u G rs) => Lib.hid (rfind_any G rs a.r u l HL.out)
  generalize findN rs _ = N at *
  generalize findB rs _ = FB at *
  generalize a.cs = cs at *
  generalize a.r = r at *
  generalize a.n = an at *
  generalize a.m = am at *
  generalize a.k = ak at *
  clear ha
  obtain rfl : ak = 4 := hk
  unfold arr8 at *
  go_enter Try.func115, Try.ntmps115
  go_upto_region 1 with fail
  generalize hW : World.alloc w _ = w0
  have h3 : Blk w0 w.heap.size 141 cs ∧ Below w.heap.size w w0 := by rw [← hW]; exact ⟨hbz, hw0⟩
  clear hW hbz hw0
  obtain ⟨b0, B0⟩ := h3
  have t0 := h.below B0
  have c0 := HC w0 w.heap.size b0
  refine wp_region_lit ?_
  refine wpList_yield rfl _ (exec_c0 _ rfl w.heap.size rfl) ?_
  simp only [Act.put, List.setIfInBounds_toArray, List.set_cons_zero, List.set_cons_succ]
  refine wpList_yield rfl _ (exec_load3 _ rfl _ _ rfl c0.out.1) ?_
  simp only [Act.put, List.setIfInBounds_toArray, List.set_cons_zero, List.set_cons_succ]
  refine wpList_nil ?_
  go_upto_region 27 with fail
  refine wp_region_lit ?_
  refine wpList_yield rfl _ (exec_c3 _ rfl w.heap.size rfl) ?_
  simp only [Act.put, List.setIfInBounds_toArray, List.set_cons_zero, List.set_cons_succ]
  refine wpList_yield rfl _ (exec_load_at at25w _ rfl w.heap.size 3 141 cs (bvs r) rfl b0 HR.out (by rw [bvs_length]; exact HL.out)) ?_
  simp only [Act.put, List.setIfInBounds_toArray, List.set_cons_zero, List.set_cons_succ]
  refine wpList_plain rfl fun K hK => ?_; go_simp
  refine hK _ _ ?_; clear hK
  (try simp only [Act.put, List.setIfInBounds_toArray, List.set_cons_zero, List.set_cons_succ])
  refine wpList_store_at at25w.i rfl (.tmp 29) (.tmp 189) rfl w0.heap.size 0 25 (bvs (zb 32)) (bvs r) rfl rfl (z25 w0).out (by rw [bvs_length]; exact HL.out) (by rw [bvs_length, zb_length]; omega) (bvs_one _) ?_
  intro w2 x2 g2 s2
  (try simp only [Act.put, List.setIfInBounds_toArray, List.set_cons_zero, List.set_cons_succ])
  refine wpList_nil ?_
  rw [splice_all _ _ (by rw [bvs_length, bvs_length, zb_length]; exact HL.out.symm)] at x2
  have V2 : Below w0.heap.size w0 w2 := ((Below.refl w0.heap.size w0).alloc (Nat.le_refl _) (.cells (bvs (zb 32)).toArray 25)).grown g2 (by simp) (by intro k hk; cases hk; exact Nat.le_refl _)
  have B2 := bthen B0 V2 B0.size
  have t2 := t0.below V2
  have b2 := b0.below V2 b0.lt
  have c2 := HC w2 w.heap.size b2
  have hg0 := b0.lt
  have hgb := B0.size
  clear g2 s2 V2 t0 b0 c0 B0 z25
  generalize w0.heap.size = G1 at *
  go_upto_region 28 with fail
  refine wp_region_lit ?_
  refine wpList_yield rfl _ (exec_c0 _ rfl w.heap.size rfl) ?_
  simp only [Act.put, List.setIfInBounds_toArray, List.set_cons_zero, List.set_cons_succ]
  refine wpList_yield rfl _ (exec_load3 _ rfl _ _ rfl c2.out.1) ?_
  simp only [Act.put, List.setIfInBounds_toArray, List.set_cons_zero, List.set_cons_succ]
  refine wpList_yield rfl ?vp17_2 ?yp17_2 ?_
  case yp17_2 => go_simp; try with_reducible rfl
  simp only [Act.put, List.setIfInBounds_toArray, List.set_cons_zero, List.set_cons_succ]
  refine wpList_nil ?_

  have HL' := HL
  have x4 := x2
  have t4 := t2
  have B4 := B2
  clear x2 t2 B2
  generalize w2 = w4 at *
  generalize r = dd at *
  go_upto_region 30 with fail
  refine wp_region_lit ?_
  refine wpList_yield rfl _ (exec_move _ rfl) ?_
  simp only [Act.put, Act.eval, Array.getD_eq_getD_getElem?, List.getElem?_toArray, List.getElem?_cons_succ, List.getElem?_cons_zero, Option.getD_some, List.setIfInBounds_toArray, List.set_cons_zero, List.set_cons_succ]
  refine wpList_yield rfl _ (exec_load_agg at25w (.tmp 29) rfl G1 25 (bvs dd) rfl x4 (by rw [bvs_length]; exact HL.out)) ?_
  simp only [Act.put, List.setIfInBounds_toArray, List.set_cons_zero, List.set_cons_succ]
  refine wpList_plain rfl fun K hK => ?_; go_simp
  with_reducible refine (F1 _ _ _ t4.lg).out.mono ?_
  rintro e w5 ⟨rfl, V5⟩
  refine hK _ _ ?_; clear hK
  (try simp only [Act.put, List.setIfInBounds_toArray, List.set_cons_zero, List.set_cons_succ])
  refine wpList_yield rfl _ (exec_move _ rfl) ?_
  simp only [Act.put, Act.eval, Array.getD_eq_getD_getElem?, List.getElem?_toArray, List.getElem?_cons_succ, List.getElem?_cons_zero, Option.getD_some, List.setIfInBounds_toArray, List.set_cons_zero, List.set_cons_succ]
  refine wpList_yield rfl ?vp18_4 ?yp18_4 ?_
  case yp18_4 => go_simp; try with_reducible rfl
  simp only [Act.put, List.setIfInBounds_toArray, List.set_cons_zero, List.set_cons_succ]
  refine wpList_yield rfl ?vp19_5 ?yp19_5 ?_
  case yp19_5 => go_simp; try with_reducible rfl
  simp only [Act.put, List.setIfInBounds_toArray, List.set_cons_zero, List.set_cons_succ]
  refine wpList_yield rfl _ (exec_assign _ rfl) ?_
  simp only [Act.put, Act.eval, Array.getD_eq_getD_getElem?, List.getElem?_toArray, List.getElem?_cons_succ, List.getElem?_cons_zero, Option.getD_some, List.setIfInBounds_toArray, List.set_cons_zero, List.set_cons_succ]
  refine wpList_yield rfl _ (exec_assign _ rfl) ?_
  simp only [Act.put, Act.eval, Array.getD_eq_getD_getElem?, List.getElem?_toArray, List.getElem?_cons_succ, List.getElem?_cons_zero, Option.getD_some, List.setIfInBounds_toArray, List.set_cons_zero, List.set_cons_succ]
  refine wpList_nil ?_
  have x5 := x4.below V5 x4.lt
  have t5 := t4.below V5
  have B5 := bthen B4 V5 B4.size
  clear x4 t4 B4 V5
  go_upto_region 31 with fail
  refine wp_region_lit ?_
  refine wpList_yield rfl _ (exec_move _ rfl) ?_
  simp only [Act.put, Act.eval, Array.getD_eq_getD_getElem?, List.getElem?_toArray, List.getElem?_cons_succ, List.getElem?_cons_zero, Option.getD_some, List.setIfInBounds_toArray, List.set_cons_zero, List.set_cons_succ]
  refine wpList_yield rfl _ (exec_load_agg at25w (.tmp 29) rfl G1 25 (bvs dd) rfl x5 (by rw [bvs_length]; exact HL.out)) ?_
  simp only [Act.put, List.setIfInBounds_toArray, List.set_cons_zero, List.set_cons_succ]
  refine wpList_plain rfl fun K hK => ?_; go_simp
  with_reducible refine (F2 _ _ _ t5.lr).out.mono ?_
  rintro e w6 ⟨rfl, V6⟩
  refine hK _ _ ?_; clear hK
  (try simp only [Act.put, List.setIfInBounds_toArray, List.set_cons_zero, List.set_cons_succ])
  refine wpList_yield rfl _ (exec_move _ rfl) ?_
  simp only [Act.put, Act.eval, Array.getD_eq_getD_getElem?, List.getElem?_toArray, List.getElem?_cons_succ, List.getElem?_cons_zero, Option.getD_some, List.setIfInBounds_toArray, List.set_cons_zero, List.set_cons_succ]
  refine wpList_yield rfl ?vp20_4 ?yp20_4 ?_
  case yp20_4 => go_simp; try with_reducible rfl
  simp only [Act.put, List.setIfInBounds_toArray, List.set_cons_zero, List.set_cons_succ]
  refine wpList_yield rfl ?vp21_5 ?yp21_5 ?_
  case yp21_5 => go_simp; try with_reducible rfl
  simp only [Act.put, List.setIfInBounds_toArray, List.set_cons_zero, List.set_cons_succ]
  refine wpList_yield rfl _ (exec_assign _ rfl) ?_
  simp only [Act.put, Act.eval, Array.getD_eq_getD_getElem?, List.getElem?_toArray, List.getElem?_cons_succ, List.getElem?_cons_zero, Option.getD_some, List.setIfInBounds_toArray, List.set_cons_zero, List.set_cons_succ]
  refine wpList_yield rfl _ (exec_assign _ rfl) ?_
  simp only [Act.put, Act.eval, Array.getD_eq_getD_getElem?, List.getElem?_toArray, List.getElem?_cons_succ, List.getElem?_cons_zero, Option.getD_some, List.setIfInBounds_toArray, List.set_cons_zero, List.set_cons_succ]
  refine wpList_nil ?_
  have B6 := bthen B5 V6 B5.size
  have HA := Lib.hid (ActS.of_below h B6)
  clear HC HE t5 x5 h F1 F2 B5 V6
  cases FB <;>
  · go_wp2_with fail
    go_ret
    exact ⟨rfl, HA.out⟩
set_option maxRecDepth 100000 in
set_option maxHeartbeats 4000000 in
theorem act_findHead {S T : Nat → Prop} (g G : Nat) (rs : List (List UInt8)) (a : LAct) (ha : a.Ok) (hk : a.k = 5) (w : World) (h : Twin S T w g G rs) (hf : rs.length < 4096) :
    Calls Try.prog 115 #[.pointer (some ⟨g, 0, none⟩), .pointer (some ⟨G, 0, none⟩), .agg a.cs.toArray] w fun e w' => e = .returned (.bool true) ∧ ActS S T g G rs w w' := by
  have hbz : Blk (w.alloc (.cells a.cs.toArray 141)) w.heap.size 141 a.cs := Blk.new _ _ _
  have hw0 : Below w.heap.size w (w.alloc (.cells a.cs.toArray 141)) := (Below.refl _ _).alloc (Nat.le_refl _) _
  have HR := Lib.hid (a.root ha)
  have HL := Lib.hid ha.r
  have HC := fun (u : World) (g : Nat) (hb : Blk u g 141 a.cs) => Lib.hid (a.cells ha hb)
  have z25 : ∀ u : World, Hid (Blk (u.alloc (.cells (bvs (zb 32)).toArray 25)) u.heap.size 25 (bvs (zb 32))) := fun u => Lib.hid (Blk.new _ _ _)
  have HE : Hid (∀ l ∈ rs, l.length = 32) := Lib.hid (by obtain ⟨_, _, p⟩ := h.lg; exact p.each)
  obtain ⟨d, q, hd, D1, D2⟩ := head_both rs a.n
  have HDL := Lib.hid hd
  have A2 := fun (T : Nat → Prop) (G : Nat) (u : World) (l : Lr T u G rs) => Lib.hid (D2 T G u l)
  clear D1 D2 hd
  have F1 := fun (S : Nat → Prop) (g : Nat) (u : World) (l : Lg S u g rs) => Lib.hid (find_any g rs d u l HDL.out)
  have F2 := fun (T : Nat → Prop) (G : Nat) (u : World) (l : Lr T u G rs) => Lib.hid (rfind_any G rs d u l HDL.out)
  generalize findN rs _ = N at *
  generalize findB rs _ = FB at *
  generalize a.cs = cs at *
  generalize a.r = r at *
  generalize a.n = an at *
  generalize a.m = am at *
  generalize a.k = ak at *
  clear ha
  obtain rfl : ak = 5 := hk
  unfold arr8 at *
  go_enter Try.func115, Try.ntmps115
  go_upto_region 1 with fail
  generalize hW : World.alloc w _ = w0
  have h3 : Blk w0 w.heap.size 141 cs ∧ Below w.heap.size w w0 := by rw [← hW]; exact ⟨hbz, hw0⟩
  clear hW hbz hw0
  obtain ⟨b0, B0⟩ := h3
  have t0 := h.below B0
  have c0 := HC w0 w.heap.size b0
  refine wp_region_lit ?_
  refine wpList_yield rfl _ (exec_c0 _ rfl w.heap.size rfl) ?_
  simp only [Act.put, List.setIfInBounds_toArray, List.set_cons_zero, List.set_cons_succ]
  refine wpList_yield rfl _ (exec_load3 _ rfl _ _ rfl c0.out.1) ?_
  simp only [Act.put, List.setIfInBounds_toArray, List.set_cons_zero, List.set_cons_succ]
  refine wpList_nil ?_
  go_upto_region 27 with fail
  refine wp_region_lit ?_
  refine wpList_yield rfl _ (exec_c3 _ rfl w.heap.size rfl) ?_
  simp only [Act.put, List.setIfInBounds_toArray, List.set_cons_zero, List.set_cons_succ]
  refine wpList_yield rfl _ (exec_load_at at25w _ rfl w.heap.size 3 141 cs (bvs r) rfl b0 HR.out (by rw [bvs_length]; exact HL.out)) ?_
  simp only [Act.put, List.setIfInBounds_toArray, List.set_cons_zero, List.set_cons_succ]
  refine wpList_plain rfl fun K hK => ?_; go_simp
  refine hK _ _ ?_; clear hK
  (try simp only [Act.put, List.setIfInBounds_toArray, List.set_cons_zero, List.set_cons_succ])
  refine wpList_store_at at25w.i rfl (.tmp 29) (.tmp 189) rfl w0.heap.size 0 25 (bvs (zb 32)) (bvs r) rfl rfl (z25 w0).out (by rw [bvs_length]; exact HL.out) (by rw [bvs_length, zb_length]; omega) (bvs_one _) ?_
  intro w2 x2 g2 s2
  (try simp only [Act.put, List.setIfInBounds_toArray, List.set_cons_zero, List.set_cons_succ])
  refine wpList_nil ?_
  rw [splice_all _ _ (by rw [bvs_length, bvs_length, zb_length]; exact HL.out.symm)] at x2
  have V2 : Below w0.heap.size w0 w2 := ((Below.refl w0.heap.size w0).alloc (Nat.le_refl _) (.cells (bvs (zb 32)).toArray 25)).grown g2 (by simp) (by intro k hk; cases hk; exact Nat.le_refl _)
  have B2 := bthen B0 V2 B0.size
  have t2 := t0.below V2
  have b2 := b0.below V2 b0.lt
  have c2 := HC w2 w.heap.size b2
  have hg0 := b0.lt
  have hgb := B0.size
  clear g2 s2 V2 t0 b0 c0 B0 z25
  generalize w0.heap.size = G1 at *
  go_upto_region 28 with fail
  refine wp_region_lit ?_
  refine wpList_yield rfl _ (exec_c0 _ rfl w.heap.size rfl) ?_
  simp only [Act.put, List.setIfInBounds_toArray, List.set_cons_zero, List.set_cons_succ]
  refine wpList_yield rfl _ (exec_load3 _ rfl _ _ rfl c2.out.1) ?_
  simp only [Act.put, List.setIfInBounds_toArray, List.set_cons_zero, List.set_cons_succ]
  refine wpList_yield rfl ?vp22_2 ?yp22_2 ?_
  case yp22_2 => go_simp; try with_reducible rfl
  simp only [Act.put, List.setIfInBounds_toArray, List.set_cons_zero, List.set_cons_succ]
  refine wpList_nil ?_

  go_upto_region 29 with fail
  refine wp_region_lit ?_
  refine wpList_yield rfl _ (exec_move _ rfl) ?_
  simp only [Act.put, Act.eval, Array.getD_eq_getD_getElem?, List.getElem?_toArray, List.getElem?_cons_succ, List.getElem?_cons_zero, Option.getD_some, List.setIfInBounds_toArray, List.set_cons_zero, List.set_cons_succ]
  refine wpList_yield rfl _ (exec_c1 _ rfl w.heap.size rfl) ?_
  simp only [Act.put, List.setIfInBounds_toArray, List.set_cons_zero, List.set_cons_succ]
  refine wpList_yield rfl _ (exec_load3 _ rfl _ _ rfl c2.out.2.1) ?_
  simp only [Act.put, List.setIfInBounds_toArray, List.set_cons_zero, List.set_cons_succ]
  refine wpList_plain rfl fun K hK => ?_; go_simp
  with_reducible refine (A2 _ _ _ t2.lr).out.mono ?_
  rintro e w3 ⟨rfl, V3⟩
  refine hK _ _ ?_; clear hK
  (try simp only [Act.put, List.setIfInBounds_toArray, List.set_cons_zero, List.set_cons_succ])
  refine wpList_yield rfl _ (exec_move _ rfl) ?_
  simp only [Act.put, Act.eval, Array.getD_eq_getD_getElem?, List.getElem?_toArray, List.getElem?_cons_succ, List.getElem?_cons_zero, Option.getD_some, List.setIfInBounds_toArray, List.set_cons_zero, List.set_cons_succ]
  refine wpList_yield rfl ?vp23_5 ?yp23_5 ?_
  case yp23_5 => go_simp; try with_reducible rfl
  simp only [Act.put, List.setIfInBounds_toArray, List.set_cons_zero, List.set_cons_succ]
  refine wpList_yield rfl ?vp24_6 ?yp24_6 ?_
  case yp24_6 => go_simp; try with_reducible rfl
  simp only [Act.put, List.setIfInBounds_toArray, List.set_cons_zero, List.set_cons_succ]
  refine wpList_store_at at25w.i rfl (.tmp 29) (.tmp 198) rfl G1 0 25 (bvs r) (bvs d) rfl rfl (x2.below V3 x2.lt) (by rw [bvs_length]; exact HDL.out) (by rw [bvs_length, HL.out]; omega) (bvs_one _) ?_
  intro w4 x4 g4 s4
  (try simp only [Act.put, List.setIfInBounds_toArray, List.set_cons_zero, List.set_cons_succ])
  refine wpList_nil ?_
  rw [splice_all _ _ (by rw [bvs_length, bvs_length, HDL.out]; exact HL.out)] at x4
  have t3 := t2.below V3
  have f4 : Fr (fun k => k = G1) w3 w4 := (Fr.refl _ _).grown g4 (by intro k hk; cases hk; exact .inl rfl)
  have t4 : Twin S T w4 g G rs := ⟨t3.lg.fr f4 (fun k s e => by have := h.lg.slt k s; have e' : k = G1 := e; omega), t3.lr.fr f4 (fun k s e => by have := h.lr.slt k s; have e' : k = G1 := e; omega), h.ap⟩
  have B4 : Below w.heap.size w w4 := (bthen B2 V3 B2.size).grown g4 (Nat.le_trans B2.size V3.size) (by intro k hk; cases hk; exact hgb)
  clear x2 t2 B2 V3 g4 s4 A2 t3 f4
  generalize d = dd at *
  go_upto_region 30 with fail
  refine wp_region_lit ?_
  refine wpList_yield rfl _ (exec_move _ rfl) ?_
  simp only [Act.put, Act.eval, Array.getD_eq_getD_getElem?, List.getElem?_toArray, List.getElem?_cons_succ, List.getElem?_cons_zero, Option.getD_some, List.setIfInBounds_toArray, List.set_cons_zero, List.set_cons_succ]
  refine wpList_yield rfl _ (exec_load_agg at25w (.tmp 29) rfl G1 25 (bvs dd) rfl x4 (by rw [bvs_length]; exact HDL.out)) ?_
  simp only [Act.put, List.setIfInBounds_toArray, List.set_cons_zero, List.set_cons_succ]
  refine wpList_plain rfl fun K hK => ?_; go_simp
  with_reducible refine (F1 _ _ _ t4.lg).out.mono ?_
  rintro e w5 ⟨rfl, V5⟩
  refine hK _ _ ?_; clear hK
  (try simp only [Act.put, List.setIfInBounds_toArray, List.set_cons_zero, List.set_cons_succ])
  refine wpList_yield rfl _ (exec_move _ rfl) ?_
  simp only [Act.put, Act.eval, Array.getD_eq_getD_getElem?, List.getElem?_toArray, List.getElem?_cons_succ, List.getElem?_cons_zero, Option.getD_some, List.setIfInBounds_toArray, List.set_cons_zero, List.set_cons_succ]
  refine wpList_yield rfl ?vp25_4 ?yp25_4 ?_
  case yp25_4 => go_simp; try with_reducible rfl
  simp only [Act.put, List.setIfInBounds_toArray, List.set_cons_zero, List.set_cons_succ]
  refine wpList_yield rfl ?vp26_5 ?yp26_5 ?_
  case yp26_5 => go_simp; try with_reducible rfl
  simp only [Act.put, List.setIfInBounds_toArray, List.set_cons_zero, List.set_cons_succ]
  refine wpList_yield rfl _ (exec_assign _ rfl) ?_
  simp only [Act.put, Act.eval, Array.getD_eq_getD_getElem?, List.getElem?_toArray, List.getElem?_cons_succ, List.getElem?_cons_zero, Option.getD_some, List.setIfInBounds_toArray, List.set_cons_zero, List.set_cons_succ]
  refine wpList_yield rfl _ (exec_assign _ rfl) ?_
  simp only [Act.put, Act.eval, Array.getD_eq_getD_getElem?, List.getElem?_toArray, List.getElem?_cons_succ, List.getElem?_cons_zero, Option.getD_some, List.setIfInBounds_toArray, List.set_cons_zero, List.set_cons_succ]
  refine wpList_nil ?_
  have x5 := x4.below V5 x4.lt
  have t5 := t4.below V5
  have B5 := bthen B4 V5 B4.size
  clear x4 t4 B4 V5
  go_upto_region 31 with fail
  refine wp_region_lit ?_
  refine wpList_yield rfl _ (exec_move _ rfl) ?_
  simp only [Act.put, Act.eval, Array.getD_eq_getD_getElem?, List.getElem?_toArray, List.getElem?_cons_succ, List.getElem?_cons_zero, Option.getD_some, List.setIfInBounds_toArray, List.set_cons_zero, List.set_cons_succ]
  refine wpList_yield rfl _ (exec_load_agg at25w (.tmp 29) rfl G1 25 (bvs dd) rfl x5 (by rw [bvs_length]; exact HDL.out)) ?_
  simp only [Act.put, List.setIfInBounds_toArray, List.set_cons_zero, List.set_cons_succ]
  refine wpList_plain rfl fun K hK => ?_; go_simp
  with_reducible refine (F2 _ _ _ t5.lr).out.mono ?_
  rintro e w6 ⟨rfl, V6⟩
  refine hK _ _ ?_; clear hK
  (try simp only [Act.put, List.setIfInBounds_toArray, List.set_cons_zero, List.set_cons_succ])
  refine wpList_yield rfl _ (exec_move _ rfl) ?_
  simp only [Act.put, Act.eval, Array.getD_eq_getD_getElem?, List.getElem?_toArray, List.getElem?_cons_succ, List.getElem?_cons_zero, Option.getD_some, List.setIfInBounds_toArray, List.set_cons_zero, List.set_cons_succ]
  refine wpList_yield rfl ?vp27_4 ?yp27_4 ?_
  case yp27_4 => go_simp; try with_reducible rfl
  simp only [Act.put, List.setIfInBounds_toArray, List.set_cons_zero, List.set_cons_succ]
  refine wpList_yield rfl ?vp28_5 ?yp28_5 ?_
  case yp28_5 => go_simp; try with_reducible rfl
  simp only [Act.put, List.setIfInBounds_toArray, List.set_cons_zero, List.set_cons_succ]
  refine wpList_yield rfl _ (exec_assign _ rfl) ?_
  simp only [Act.put, Act.eval, Array.getD_eq_getD_getElem?, List.getElem?_toArray, List.getElem?_cons_succ, List.getElem?_cons_zero, Option.getD_some, List.setIfInBounds_toArray, List.set_cons_zero, List.set_cons_succ]
  refine wpList_yield rfl _ (exec_assign _ rfl) ?_
  simp only [Act.put, Act.eval, Array.getD_eq_getD_getElem?, List.getElem?_toArray, List.getElem?_cons_succ, List.getElem?_cons_zero, Option.getD_some, List.setIfInBounds_toArray, List.set_cons_zero, List.set_cons_succ]
  refine wpList_nil ?_
  have B6 := bthen B5 V6 B5.size
  have HA := Lib.hid (ActS.of_below h B6)
  clear HC HE t5 x5 h F1 F2 B5 V6
  cases FB <;>
  · go_wp2_with fail
    go_ret
    exact ⟨rfl, HA.out⟩
set_option maxRecDepth 100000 in
set_option maxHeartbeats 4000000 in
theorem act_else {S T : Nat → Prop} (g G : Nat) (rs : List (List UInt8)) (a : LAct) (ha : a.Ok) (hk : a.k ≠ 0 ∧ a.k ≠ 1 ∧ a.k ≠ 2 ∧ a.k ≠ 3 ∧ a.k ≠ 4 ∧ a.k ≠ 5 ∧ a.k ≠ 6) (w : World) (h : Twin S T w g G rs) (hf : rs.length < 4096) :
    Calls Try.prog 115 #[.pointer (some ⟨g, 0, none⟩), .pointer (some ⟨G, 0, none⟩), .agg a.cs.toArray] w fun e w' => e = .returned (.bool true) ∧ ActS S T g G rs w w' := by
  have hbz : Blk (w.alloc (.cells a.cs.toArray 141)) w.heap.size 141 a.cs := Blk.new _ _ _
  have hw0 : Below w.heap.size w (w.alloc (.cells a.cs.toArray 141)) := (Below.refl _ _).alloc (Nat.le_refl _) _
  have HR := Lib.hid (a.root ha)
  have HL := Lib.hid ha.r
  have HC := fun (u : World) (g : Nat) (hb : Blk u g 141 a.cs) => Lib.hid (a.cells ha hb)
  have z25 : ∀ u : World, Hid (Blk (u.alloc (.cells (bvs (zb 32)).toArray 25)) u.heap.size 25 (bvs (zb 32))) := fun u => Lib.hid (Blk.new _ _ _)
  have HE : Hid (∀ l ∈ rs, l.length = 32) := Lib.hid (by obtain ⟨_, _, p⟩ := h.lg; exact p.each)
  generalize a.cs = cs at *
  generalize a.r = r at *
  generalize a.n = an at *
  generalize a.m = am at *
  generalize a.k = ak at *
  clear ha
  have e0 : (ak == 0) = false := beq_eq_false_iff_ne.2 hk.1
  have e1 : (ak == 1) = false := beq_eq_false_iff_ne.2 hk.2.1
  have e2 : (ak == 2) = false := beq_eq_false_iff_ne.2 hk.2.2.1
  have e3 : (ak == 3) = false := beq_eq_false_iff_ne.2 hk.2.2.2.1
  have e4 : (ak == 4) = false := beq_eq_false_iff_ne.2 hk.2.2.2.2.1
  have e5 : (ak == 5) = false := beq_eq_false_iff_ne.2 hk.2.2.2.2.2.1
  have e6 : (ak == 6) = false := beq_eq_false_iff_ne.2 hk.2.2.2.2.2.2
  clear hk
  unfold arr8 at *
  go_enter Try.func115, Try.ntmps115
  go_upto_region 1 with fail
  generalize hW : World.alloc w _ = w0
  have h3 : Blk w0 w.heap.size 141 cs ∧ Below w.heap.size w w0 := by rw [← hW]; exact ⟨hbz, hw0⟩
  clear hW hbz hw0
  obtain ⟨b0, B0⟩ := h3
  have t0 := h.below B0
  have c0 := HC w0 w.heap.size b0
  refine wp_region_lit ?_
  refine wpList_yield rfl _ (exec_c0 _ rfl w.heap.size rfl) ?_
  simp only [Act.put, List.setIfInBounds_toArray, List.set_cons_zero, List.set_cons_succ]
  refine wpList_yield rfl _ (exec_load3 _ rfl _ _ rfl c0.out.1) ?_
  simp only [Act.put, List.setIfInBounds_toArray, List.set_cons_zero, List.set_cons_succ]
  refine wpList_nil ?_
  go_upto_region 35 with fail
  have HA := Lib.hid (ActS.of_below h B0)
  clear HC HE t0 h c0 b0 z25
  go_wp2_with fail
  go_ret
  exact ⟨rfl, HA.out⟩
set_option maxRecDepth 100000 in
set_option maxHeartbeats 4000000 in
theorem act_len {S T : Nat → Prop} (g G : Nat) (rs : List (List UInt8)) (a : LAct) (ha : a.Ok) (hk : a.k = 6) (w : World) (h : Twin S T w g G rs) (hf : rs.length < 4096) :
    Calls Try.prog 115 #[.pointer (some ⟨g, 0, none⟩), .pointer (some ⟨G, 0, none⟩), .agg a.cs.toArray] w fun e w' => e = .returned (.bool true) ∧ ActS S T g G rs w w' := by
  have hbz : Blk (w.alloc (.cells a.cs.toArray 141)) w.heap.size 141 a.cs := Blk.new _ _ _
  have hw0 : Below w.heap.size w (w.alloc (.cells a.cs.toArray 141)) := (Below.refl _ _).alloc (Nat.le_refl _) _
  have HR := Lib.hid (a.root ha)
  have HL := Lib.hid ha.r
  have HC := fun (u : World) (g : Nat) (hb : Blk u g 141 a.cs) => Lib.hid (a.cells ha hb)
  have z25 : ∀ u : World, Hid (Blk (u.alloc (.cells (bvs (zb 32)).toArray 25)) u.heap.size 25 (bvs (zb 32))) := fun u => Lib.hid (Blk.new _ _ _)
  have HE : Hid (∀ l ∈ rs, l.length = 32) := Lib.hid (by obtain ⟨_, _, p⟩ := h.lg; exact p.each)
  obtain ⟨A, c, v⟩ := h.lr.view
  have hcl := Lib.hid (lr_cell v.blk)
  have RL := v.r
  clear v
  have C1 := fun u => Lib.hid (crfirst_any u)
  rw [show shaL [4] = firstH from rfl] at C1
  have HFL : Hid (firstH.length = 32) := Lib.hid firstH_length
  have C2 := fun (u : World) (x : Hl u A rs.length c rs) => Lib.hid (rfold_any firstH A rs.length c rs u firstH_length x)
  have HRL : Hid ((foldH firstH rs).length = 32) := Lib.hid (foldH_len _)
  have LL := fun (u : World) (q : Lg S u g rs) => Lib.hid (loglen_is g rs u q (rs.length : Int) rfl)
  have HD := fun (u : World) (q : Lg S u g rs) => Lib.hid (loghead_is g rs u q _ rfl)
  generalize foldH firstH rs = res at *
  generalize firstH = FH at *
  generalize a.cs = cs at *
  generalize a.r = r at *
  generalize a.n = an at *
  generalize a.m = am at *
  generalize a.k = ak at *
  clear ha
  obtain rfl : ak = 6 := hk
  unfold arr8 at *
  go_enter Try.func115, Try.ntmps115
  go_upto_region 1 with fail
  generalize hW : World.alloc w _ = w0
  have h3 : Blk w0 w.heap.size 141 cs ∧ Below w.heap.size w w0 := by rw [← hW]; exact ⟨hbz, hw0⟩
  clear hW hbz hw0
  obtain ⟨b0, B0⟩ := h3
  have t0 := h.below B0
  have c0 := HC w0 w.heap.size b0
  refine wp_region_lit ?_
  refine wpList_yield rfl _ (exec_c0 _ rfl w.heap.size rfl) ?_
  simp only [Act.put, List.setIfInBounds_toArray, List.set_cons_zero, List.set_cons_succ]
  refine wpList_yield rfl _ (exec_load3 _ rfl _ _ rfl c0.out.1) ?_
  simp only [Act.put, List.setIfInBounds_toArray, List.set_cons_zero, List.set_cons_succ]
  refine wpList_nil ?_
  go_upto_region 34 with fail
  have l0 := t0.lg
  clear t0 c0 b0 HC HE z25 HR HL
  generalize hn : rs.length = n at *
  have HN := Lib.hid hn
  clear hn
  refine rg_begin (Below w.heap.size w) [] [1, 10, 11, 16] [0, 2, 3, 4, 5, 6, 1, 7, 8, 9, 12, 13, 14, 15, 10, 11, 16, 17, 18, 19] 0 mixed (by kernel_rfl) (fun _ _ _ _ e hh => ⟨e.symm.trans hh.1, hh.2⟩) ?_
  simp only [pick, List.map_cons, List.map_nil, List.getD_cons_zero, List.getD_cons_succ]
  have hS : (Below w.heap.size w) _ := B0.drew
  refine rg_take (v := ?v29_0) rfl rfl hS ?y29_0 ?_
  case y29_0 => intro W hW; (try subst hW); go_simp; try with_reducible rfl
  simp only [Act.put, List.setIfInBounds_toArray, List.set_cons_zero, List.set_cons_succ]
  refine rg_take (v := ?v29_2) rfl rfl hS ?y29_2 ?_
  case y29_2 => intro W hW; (try subst hW); go_simp; try with_reducible rfl
  simp only [Act.put, List.setIfInBounds_toArray, List.set_cons_zero, List.set_cons_succ]
  refine rg_take rfl rfl hS (fun W hW => exec_nilck _ rfl _ rfl) ?_
  simp only [Act.put, List.setIfInBounds_toArray, List.set_cons_zero, List.set_cons_succ]
  refine rg_take rfl rfl hS (fun W hW => exec_r0 _ rfl G rfl) ?_
  simp only [Act.put, List.setIfInBounds_toArray, List.set_cons_zero, List.set_cons_succ]
  refine rg_take rfl rfl hS (fun W hW => exec_load132 _ rfl _ _ rfl (cell_below hW hcl.out)) ?_
  simp only [Act.put, List.setIfInBounds_toArray, List.set_cons_zero, List.set_cons_succ]
  refine rg_take rfl rfl hS (fun W hW => exec_len132 _ rfl A n c rfl) ?_
  simp only [Act.put, List.setIfInBounds_toArray, List.set_cons_zero, List.set_cons_succ]
  refine rg_one rfl rfl ?_; intro K hK; go_simp
  with_reducible refine (LL _ (h.lg.below hS)).out.mono ?_
  rintro e _ ⟨rfl, rfl⟩
  refine hK _ _ (fun _ => hS) ?_; clear hK
  refine rg_take (v := ?v29_7) rfl rfl hS ?y29_7 ?_
  case y29_7 => intro W hW; (try subst hW); go_simp; try with_reducible rfl
  simp only [Act.put, List.setIfInBounds_toArray, List.set_cons_zero, List.set_cons_succ]
  refine rg_take (v := ?v29_8) rfl rfl hS ?y29_8 ?_
  case y29_8 => intro W hW; (try subst hW); go_simp; try with_reducible rfl
  simp only [Act.put, List.setIfInBounds_toArray, List.set_cons_zero, List.set_cons_succ]
  refine rg_take (v := ?v29_9) rfl rfl hS ?y29_9 ?_
  case y29_9 => intro W hW; (try subst hW); go_simp; try with_reducible rfl
  simp only [Act.put, List.setIfInBounds_toArray, List.set_cons_zero, List.set_cons_succ]
  refine rg_take (v := ?v29_12) rfl rfl hS ?y29_12 ?_
  case y29_12 => intro W hW; (try subst hW); go_simp; try with_reducible rfl
  simp only [Act.put, List.setIfInBounds_toArray, List.set_cons_zero, List.set_cons_succ]
  refine rg_take rfl rfl hS (fun W hW => exec_nilck _ rfl _ rfl) ?_
  simp only [Act.put, List.setIfInBounds_toArray, List.set_cons_zero, List.set_cons_succ]
  refine rg_take rfl rfl hS (fun W hW => exec_r0 _ rfl G rfl) ?_
  simp only [Act.put, List.setIfInBounds_toArray, List.set_cons_zero, List.set_cons_succ]
  refine rg_take rfl rfl hS (fun W hW => exec_load132 _ rfl _ _ rfl (cell_below hW hcl.out)) ?_
  simp only [Act.put, List.setIfInBounds_toArray, List.set_cons_zero, List.set_cons_succ]
  refine rg_one rfl rfl ?_; intro K hK; go_simp
  with_reducible refine (HD _ (h.lg.below hS)).out.mono ?_
  rintro e w1 ⟨rfl, V1⟩
  have hS1 : Below w.heap.size w w1 := Below.trans hS (V1.mono (Below.size hS))
  refine hK _ _ (fun _ => hS1) ?_; clear hK
  refine rg_one rfl rfl ?_; intro K hK; go_simp
  with_reducible refine (C1 _).out.mono ?_
  rintro e w2 ⟨rfl, V2⟩
  have hS2 : Below w.heap.size w w2 := Below.trans hS1 (V2.mono (Below.size hS1))
  refine hK _ _ (fun _ => hS2) ?_; clear hK
  refine rg_one rfl rfl ?_; intro K hK; go_simp
  with_reducible refine (C2 _ (RL.below hS2)).out.mono ?_
  rintro e w3 ⟨rfl, V3⟩
  have hS3 : Below w.heap.size w w3 := Below.trans hS2 (V3.mono (Below.size hS2))
  refine hK _ _ (fun _ => hS3) ?_; clear hK
  refine rg_take rfl rfl hS3 (fun W hW => exec_eql_same ab25 _ _ rfl res rfl rfl HRL.out) ?_
  simp only [Act.put, List.setIfInBounds_toArray, List.set_cons_zero, List.set_cons_succ]
  refine rg_take (v := ?v29_18) rfl rfl hS3 ?y29_18 ?_
  case y29_18 => intro W hW; (try subst hW); go_simp; try with_reducible rfl
  simp only [Act.put, List.setIfInBounds_toArray, List.set_cons_zero, List.set_cons_succ]
  refine rg_take (v := ?v29_19) rfl rfl hS3 ?y29_19 ?_
  case y29_19 => intro W hW; (try subst hW); go_simp; try with_reducible rfl
  simp only [Act.put, List.setIfInBounds_toArray, List.set_cons_zero, List.set_cons_succ]
  refine rg_done (by kernel_rfl) ?_
  have HA := Lib.hid (ActS.of_below h hS3)
  clear h hS hS1 hS2 hS3 V1 V2 V3 l0 LL HD C1 C2 hcl RL B0
  go_wp2_with fail
  go_ret
  exact ⟨rfl, HA.out⟩
theorem exec_siaz0 {w : World} {a : Act} {o : Oper} (x y : Operand) (ho : o.op = .indexAddr 132 x y) (g n c i : Nat) (k : IntKind) (hx : a.eval x = .slice (some ⟨g, 0, none⟩) n c) (hy : a.eval y = .int k (i : Int)) (hi : i < n) :
    (execOp a.eval o).run Try.prog w = .ok (.value (.pointer (some ⟨g, i * 32, none⟩))) w := by
  have h := exec_siaz (P := Try.prog) (w := w) Try.underlying132 sz25 x y ho ⟨g, 0, none⟩ n c i k hx hy hi
  rw [show (⟨g, 0, none⟩ : Addr).add (i * 32) = ⟨g, i * 32, none⟩ by
    unfold Addr.add
    split
    · rename_i e; rw [e]
    · simp] at h
  exact h
theorem splice_len (cs vs : List Value) (i : Nat) (h : i + vs.length ≤ cs.length) : (splice cs i vs).length = cs.length := by
  unfold splice
  simp
  omega
/-- While a list of the call's own is written over: the roots behind are in the block gx. -/
structure OverS (k gx : Nat) (w4 wr : World) : Prop where
  fr : Fr (fun b => 0 < k ∧ b = gx) w4 wr
  blk : 0 < k → ∃ cs, Blk wr gx 25 cs ∧ k * 32 ≤ cs.length
theorem over_at {k : Nat} {A : Option Addr} {w0 w1 : World} (h : 0 < k → ∃ gx cs, A = some ⟨gx, 0, none⟩ ∧ Blk w1 gx 25 cs ∧ k * 32 ≤ cs.length ∧ w0.heap.size ≤ gx) :
    ∃ gx, 0 < k → A = some ⟨gx, 0, none⟩ ∧ (∃ cs, Blk w1 gx 25 cs ∧ k * 32 ≤ cs.length) ∧ w0.heap.size ≤ gx ∧ gx < w1.heap.size := by
  by_cases h0 : 0 < k
  · obtain ⟨gx, cs, e, hb, hl, hg⟩ := h h0
    exact ⟨gx, fun _ => ⟨e, ⟨cs, hb, hl⟩, hg, hb.lt⟩⟩
  · exact ⟨0, fun h => absurd h h0⟩
set_option maxRecDepth 100000 in
set_option maxHeartbeats 4000000 in
theorem act_roots {S T : Nat → Prop} (g G : Nat) (rs : List (List UInt8)) (a : LAct) (ha : a.Ok) (hk : a.k = 3) (w : World) (h : Twin S T w g G rs) (hf : rs.length < 4096) :
    Calls Try.prog 115 #[.pointer (some ⟨g, 0, none⟩), .pointer (some ⟨G, 0, none⟩), .agg a.cs.toArray] w fun e w' => e = .returned (.bool true) ∧ ActS S T g G rs w w' := by
  have hbz : Blk (w.alloc (.cells a.cs.toArray 141)) w.heap.size 141 a.cs := Blk.new _ _ _
  have hw0 : Below w.heap.size w (w.alloc (.cells a.cs.toArray 141)) := (Below.refl _ _).alloc (Nat.le_refl _) _
  have HR := Lib.hid (a.root ha)
  have HL := Lib.hid ha.r
  have HC := fun (u : World) (g : Nat) (hb : Blk u g 141 a.cs) => Lib.hid (a.cells ha hb)
  have z25 : ∀ u : World, Hid (Blk (u.alloc (.cells (bvs (zb 32)).toArray 25)) u.heap.size 25 (bvs (zb 32))) := fun u => Lib.hid (Blk.new _ _ _)
  have HE : Hid (∀ l ∈ rs, l.length = 32) := Lib.hid (by obtain ⟨_, _, p⟩ := h.lg; exact p.each)
  obtain ⟨k, ls, q, D1, D2⟩ := roots_both rs HE.out a.n a.m
  have R1 := fun (S : Nat → Prop) (g : Nat) (u : World) (l : Lg S u g rs) => Lib.hid (D1 S g u l)
  have R2 := fun (T : Nat → Prop) (G : Nat) (u : World) (l : Lr T u G rs) => Lib.hid (D2 T G u l)
  have SM := fun (A B : Option Addr) (c d : Nat) (u : World) (x : Hl u A k c ls) (y : Hl u B k d ls) => Lib.hid (sameL111 A k c ls B k d ls u x y true (by simp))
  clear D1 D2
  generalize a.cs = cs at *
  generalize a.r = r at *
  generalize a.n = an at *
  generalize a.m = am at *
  generalize a.k = ak at *
  clear ha
  obtain rfl : ak = 3 := hk
  unfold arr8 at *
  go_enter Try.func115, Try.ntmps115
  go_upto_region 1 with fail
  generalize hW : World.alloc w _ = w0
  have h3 : Blk w0 w.heap.size 141 cs ∧ Below w.heap.size w w0 := by rw [← hW]; exact ⟨hbz, hw0⟩
  clear hW hbz hw0
  obtain ⟨b0, B0⟩ := h3
  have t0 := h.below B0
  have c0 := HC w0 w.heap.size b0
  refine wp_region_lit ?_
  refine wpList_yield rfl _ (exec_c0 _ rfl w.heap.size rfl) ?_
  simp only [Act.put, List.setIfInBounds_toArray, List.set_cons_zero, List.set_cons_succ]
  refine wpList_yield rfl _ (exec_load3 _ rfl _ _ rfl c0.out.1) ?_
  simp only [Act.put, List.setIfInBounds_toArray, List.set_cons_zero, List.set_cons_succ]
  refine wpList_nil ?_
  go_upto_region 15 with fail
  refine wp_region_lit ?_
  refine wpList_yield rfl _ (exec_move _ rfl) ?_
  simp only [Act.put, Act.eval, Array.getD_eq_getD_getElem?, List.getElem?_toArray, List.getElem?_cons_succ, List.getElem?_cons_zero, Option.getD_some, List.setIfInBounds_toArray, List.set_cons_zero, List.set_cons_succ]
  refine wpList_yield rfl _ (exec_c1 _ rfl w.heap.size rfl) ?_
  simp only [Act.put, List.setIfInBounds_toArray, List.set_cons_zero, List.set_cons_succ]
  refine wpList_yield rfl _ (exec_load3 _ rfl _ _ rfl c0.out.2.1) ?_
  simp only [Act.put, List.setIfInBounds_toArray, List.set_cons_zero, List.set_cons_succ]
  refine wpList_yield rfl _ (exec_c2 _ rfl w.heap.size rfl) ?_
  simp only [Act.put, List.setIfInBounds_toArray, List.set_cons_zero, List.set_cons_succ]
  refine wpList_yield rfl _ (exec_load3 _ rfl _ _ rfl c0.out.2.2) ?_
  simp only [Act.put, List.setIfInBounds_toArray, List.set_cons_zero, List.set_cons_succ]
  refine wpList_plain rfl fun K hK => ?_; go_simp
  with_reducible refine (R1 _ _ _ t0.lg).out.mono ?_
  rintro e w1 ⟨X, cx, rfl, x1, _, ox, V1⟩
  refine hK _ _ ?_; clear hK
  (try simp only [Act.put, List.setIfInBounds_toArray, List.set_cons_zero, List.set_cons_succ])
  refine wpList_yield rfl _ (exec_move _ rfl) ?_
  simp only [Act.put, Act.eval, Array.getD_eq_getD_getElem?, List.getElem?_toArray, List.getElem?_cons_succ, List.getElem?_cons_zero, Option.getD_some, List.setIfInBounds_toArray, List.set_cons_zero, List.set_cons_succ]
  refine wpList_yield rfl ?vp30_7 ?yp30_7 ?_
  case yp30_7 => go_simp; try with_reducible rfl
  simp only [Act.put, List.setIfInBounds_toArray, List.set_cons_zero, List.set_cons_succ]
  refine wpList_yield rfl ?vp31_8 ?yp31_8 ?_
  case yp31_8 => go_simp; try with_reducible rfl
  simp only [Act.put, List.setIfInBounds_toArray, List.set_cons_zero, List.set_cons_succ]
  refine wpList_yield rfl _ (exec_assign _ rfl) ?_
  simp only [Act.put, Act.eval, Array.getD_eq_getD_getElem?, List.getElem?_toArray, List.getElem?_cons_succ, List.getElem?_cons_zero, Option.getD_some, List.setIfInBounds_toArray, List.set_cons_zero, List.set_cons_succ]
  refine wpList_yield rfl _ (exec_assign _ rfl) ?_
  simp only [Act.put, Act.eval, Array.getD_eq_getD_getElem?, List.getElem?_toArray, List.getElem?_cons_succ, List.getElem?_cons_zero, Option.getD_some, List.setIfInBounds_toArray, List.set_cons_zero, List.set_cons_succ]
  refine wpList_nil ?_
  obtain ⟨gx, hgx⟩ := over_at ox
  have b1 := b0.below V1 b0.lt
  have c1 := HC w1 w.heap.size b1
  have t1 := t0.below V1
  have B1 := bthen B0 V1 B0.size
  have hg0 := b0.lt
  have z1 := V1.size
  clear ox b0 c0 t0 V1
  go_upto_region 16 with fail
  refine wp_region_lit ?_
  refine wpList_yield rfl _ (exec_move _ rfl) ?_
  simp only [Act.put, Act.eval, Array.getD_eq_getD_getElem?, List.getElem?_toArray, List.getElem?_cons_succ, List.getElem?_cons_zero, Option.getD_some, List.setIfInBounds_toArray, List.set_cons_zero, List.set_cons_succ]
  refine wpList_yield rfl _ (exec_c1 _ rfl w.heap.size rfl) ?_
  simp only [Act.put, List.setIfInBounds_toArray, List.set_cons_zero, List.set_cons_succ]
  refine wpList_yield rfl _ (exec_load3 _ rfl _ _ rfl c1.out.2.1) ?_
  simp only [Act.put, List.setIfInBounds_toArray, List.set_cons_zero, List.set_cons_succ]
  refine wpList_yield rfl _ (exec_c2 _ rfl w.heap.size rfl) ?_
  simp only [Act.put, List.setIfInBounds_toArray, List.set_cons_zero, List.set_cons_succ]
  refine wpList_yield rfl _ (exec_load3 _ rfl _ _ rfl c1.out.2.2) ?_
  simp only [Act.put, List.setIfInBounds_toArray, List.set_cons_zero, List.set_cons_succ]
  refine wpList_plain rfl fun K hK => ?_; go_simp
  with_reducible refine (R1 _ _ _ t1.lg).out.mono ?_
  rintro e w2 ⟨Y, cy, rfl, y2, hY, _, V2⟩
  refine hK _ _ ?_; clear hK
  (try simp only [Act.put, List.setIfInBounds_toArray, List.set_cons_zero, List.set_cons_succ])
  refine wpList_yield rfl _ (exec_move _ rfl) ?_
  simp only [Act.put, Act.eval, Array.getD_eq_getD_getElem?, List.getElem?_toArray, List.getElem?_cons_succ, List.getElem?_cons_zero, Option.getD_some, List.setIfInBounds_toArray, List.set_cons_zero, List.set_cons_succ]
  refine wpList_yield rfl ?vp32_7 ?yp32_7 ?_
  case yp32_7 => go_simp; try with_reducible rfl
  simp only [Act.put, List.setIfInBounds_toArray, List.set_cons_zero, List.set_cons_succ]
  refine wpList_yield rfl ?vp33_8 ?yp33_8 ?_
  case yp33_8 => go_simp; try with_reducible rfl
  simp only [Act.put, List.setIfInBounds_toArray, List.set_cons_zero, List.set_cons_succ]
  refine wpList_yield rfl _ (exec_assign _ rfl) ?_
  simp only [Act.put, Act.eval, Array.getD_eq_getD_getElem?, List.getElem?_toArray, List.getElem?_cons_succ, List.getElem?_cons_zero, Option.getD_some, List.setIfInBounds_toArray, List.set_cons_zero, List.set_cons_succ]
  refine wpList_yield rfl _ (exec_assign _ rfl) ?_
  simp only [Act.put, Act.eval, Array.getD_eq_getD_getElem?, List.getElem?_toArray, List.getElem?_cons_succ, List.getElem?_cons_zero, Option.getD_some, List.setIfInBounds_toArray, List.set_cons_zero, List.set_cons_succ]
  refine wpList_nil ?_
  have b2 := b1.below V2 b1.lt
  have c2 := HC w2 w.heap.size b2
  have t2 := t1.below V2
  have x2 := x1.below V2
  have B2 := bthen B1 V2 B1.size
  have z2 := V2.size
  have hgx2 : 0 < k → X = some ⟨gx, 0, none⟩ ∧ (∃ cs, Blk w2 gx 25 cs ∧ k * 32 ≤ cs.length) ∧ w0.heap.size ≤ gx ∧ gx < w1.heap.size := by
    intro h0
    obtain ⟨e, ⟨cs, hb, hl⟩, g1, g2⟩ := hgx h0
    exact ⟨e, ⟨cs, hb.below V2 g2, hl⟩, g1, g2⟩
  clear hgx b1 c1 t1 x1 V2
  go_upto_region 17 with fail
  refine wp_region_lit ?_
  refine wpList_yield rfl _ (exec_move _ rfl) ?_
  simp only [Act.put, Act.eval, Array.getD_eq_getD_getElem?, List.getElem?_toArray, List.getElem?_cons_succ, List.getElem?_cons_zero, Option.getD_some, List.setIfInBounds_toArray, List.set_cons_zero, List.set_cons_succ]
  refine wpList_yield rfl _ (exec_c1 _ rfl w.heap.size rfl) ?_
  simp only [Act.put, List.setIfInBounds_toArray, List.set_cons_zero, List.set_cons_succ]
  refine wpList_yield rfl _ (exec_load3 _ rfl _ _ rfl c2.out.2.1) ?_
  simp only [Act.put, List.setIfInBounds_toArray, List.set_cons_zero, List.set_cons_succ]
  refine wpList_yield rfl _ (exec_c2 _ rfl w.heap.size rfl) ?_
  simp only [Act.put, List.setIfInBounds_toArray, List.set_cons_zero, List.set_cons_succ]
  refine wpList_yield rfl _ (exec_load3 _ rfl _ _ rfl c2.out.2.2) ?_
  simp only [Act.put, List.setIfInBounds_toArray, List.set_cons_zero, List.set_cons_succ]
  refine wpList_plain rfl fun K hK => ?_; go_simp
  with_reducible refine (R2 _ _ _ t2.lr).out.mono ?_
  rintro e _ ⟨Z, cz, rfl, y3, hZ, rfl⟩
  refine hK _ _ ?_; clear hK
  (try simp only [Act.put, List.setIfInBounds_toArray, List.set_cons_zero, List.set_cons_succ])
  refine wpList_yield rfl _ (exec_move _ rfl) ?_
  simp only [Act.put, Act.eval, Array.getD_eq_getD_getElem?, List.getElem?_toArray, List.getElem?_cons_succ, List.getElem?_cons_zero, Option.getD_some, List.setIfInBounds_toArray, List.set_cons_zero, List.set_cons_succ]
  refine wpList_yield rfl ?vp34_7 ?yp34_7 ?_
  case yp34_7 => go_simp; try with_reducible rfl
  simp only [Act.put, List.setIfInBounds_toArray, List.set_cons_zero, List.set_cons_succ]
  refine wpList_yield rfl ?vp35_8 ?yp35_8 ?_
  case yp35_8 => go_simp; try with_reducible rfl
  simp only [Act.put, List.setIfInBounds_toArray, List.set_cons_zero, List.set_cons_succ]
  refine wpList_yield rfl _ (exec_assign _ rfl) ?_
  simp only [Act.put, Act.eval, Array.getD_eq_getD_getElem?, List.getElem?_toArray, List.getElem?_cons_succ, List.getElem?_cons_zero, Option.getD_some, List.setIfInBounds_toArray, List.set_cons_zero, List.set_cons_succ]
  refine wpList_yield rfl _ (exec_assign _ rfl) ?_
  simp only [Act.put, Act.eval, Array.getD_eq_getD_getElem?, List.getElem?_toArray, List.getElem?_cons_succ, List.getElem?_cons_zero, Option.getD_some, List.setIfInBounds_toArray, List.set_cons_zero, List.set_cons_succ]
  refine wpList_nil ?_
  go_upto_region 18 with fail
  refine wp_region_lit ?_
  refine wpList_yield rfl _ (exec_move _ rfl) ?_
  simp only [Act.put, Act.eval, Array.getD_eq_getD_getElem?, List.getElem?_toArray, List.getElem?_cons_succ, List.getElem?_cons_zero, Option.getD_some, List.setIfInBounds_toArray, List.set_cons_zero, List.set_cons_succ]
  refine wpList_yield rfl _ (exec_move _ rfl) ?_
  simp only [Act.put, Act.eval, Array.getD_eq_getD_getElem?, List.getElem?_toArray, List.getElem?_cons_succ, List.getElem?_cons_zero, Option.getD_some, List.setIfInBounds_toArray, List.set_cons_zero, List.set_cons_succ]
  refine wpList_plain rfl fun K hK => ?_; go_simp
  with_reducible refine (SM _ _ _ _ _ x2 y3).out.mono ?_
  rintro e w3 ⟨rfl, V3⟩
  refine hK _ _ ?_; clear hK
  (try simp only [Act.put, List.setIfInBounds_toArray, List.set_cons_zero, List.set_cons_succ])
  refine wpList_yield rfl _ (exec_move _ rfl) ?_
  simp only [Act.put, Act.eval, Array.getD_eq_getD_getElem?, List.getElem?_toArray, List.getElem?_cons_succ, List.getElem?_cons_zero, Option.getD_some, List.setIfInBounds_toArray, List.set_cons_zero, List.set_cons_succ]
  refine wpList_yield_w rfl _ (exec_move _ rfl) ?_
  simp only [Act.put, Act.eval, Array.getD_eq_getD_getElem?, List.getElem?_toArray, List.getElem?_cons_succ, List.getElem?_cons_zero, Option.getD_some, List.setIfInBounds_toArray, List.set_cons_zero, List.set_cons_succ]
  refine wpList_yield_w rfl _ (exec_move _ rfl) ?_
  simp only [Act.put, Act.eval, Array.getD_eq_getD_getElem?, List.getElem?_toArray, List.getElem?_cons_succ, List.getElem?_cons_zero, Option.getD_some, List.setIfInBounds_toArray, List.set_cons_zero, List.set_cons_succ]
  refine wpList_plain_w rfl fun K hK => ?_; go_simp
  with_reducible refine (SM _ _ _ _ _ (y2.below V3) (y3.below V3)).out.mono ?_
  rintro e w4 ⟨rfl, V4⟩
  refine hK _ _ ?_; clear hK
  (try simp only [Act.put, List.setIfInBounds_toArray, List.set_cons_zero, List.set_cons_succ])
  refine wpList_yield rfl ?vp36_7 ?yp36_7 ?_
  case yp36_7 => go_simp; try with_reducible rfl
  simp only [Act.put, List.setIfInBounds_toArray, List.set_cons_zero, List.set_cons_succ]
  refine wpList_yield rfl _ (exec_move _ rfl) ?_
  simp only [Act.put, Act.eval, Array.getD_eq_getD_getElem?, List.getElem?_toArray, List.getElem?_cons_succ, List.getElem?_cons_zero, Option.getD_some, List.setIfInBounds_toArray, List.set_cons_zero, List.set_cons_succ]
  refine wpList_yield_w rfl _ (exec_move _ rfl) ?_
  simp only [Act.put, Act.eval, Array.getD_eq_getD_getElem?, List.getElem?_toArray, List.getElem?_cons_succ, List.getElem?_cons_zero, Option.getD_some, List.setIfInBounds_toArray, List.set_cons_zero, List.set_cons_succ]
  refine wpList_yield_w rfl _ (exec_move _ rfl) ?_
  simp only [Act.put, Act.eval, Array.getD_eq_getD_getElem?, List.getElem?_toArray, List.getElem?_cons_succ, List.getElem?_cons_zero, Option.getD_some, List.setIfInBounds_toArray, List.set_cons_zero, List.set_cons_succ]
  refine wpList_yield_w rfl ?vp37_11 ?yp37_11 ?_
  case yp37_11 => go_simp; try with_reducible rfl
  simp only [Act.put, List.setIfInBounds_toArray, List.set_cons_zero, List.set_cons_succ]
  refine wpList_yield rfl ?vp38_12 ?yp38_12 ?_
  case yp38_12 => go_simp; try with_reducible rfl
  simp only [Act.put, List.setIfInBounds_toArray, List.set_cons_zero, List.set_cons_succ]
  refine wpList_yield rfl _ (exec_move _ rfl) ?_
  simp only [Act.put, Act.eval, Array.getD_eq_getD_getElem?, List.getElem?_toArray, List.getElem?_cons_succ, List.getElem?_cons_zero, Option.getD_some, List.setIfInBounds_toArray, List.set_cons_zero, List.set_cons_succ]
  refine wpList_yield_w rfl _ (exec_move _ rfl) ?_
  simp only [Act.put, Act.eval, Array.getD_eq_getD_getElem?, List.getElem?_toArray, List.getElem?_cons_succ, List.getElem?_cons_zero, Option.getD_some, List.setIfInBounds_toArray, List.set_cons_zero, List.set_cons_succ]
  refine wpList_yield_w rfl _ (exec_move _ rfl) ?_
  simp only [Act.put, Act.eval, Array.getD_eq_getD_getElem?, List.getElem?_toArray, List.getElem?_cons_succ, List.getElem?_cons_zero, Option.getD_some, List.setIfInBounds_toArray, List.set_cons_zero, List.set_cons_succ]
  refine wpList_yield_w rfl ?vp39_16 ?yp39_16 ?_
  case yp39_16 => go_simp; try with_reducible rfl
  simp only [Act.put, List.setIfInBounds_toArray, List.set_cons_zero, List.set_cons_succ]
  refine wpList_yield rfl ?vp40_17 ?yp40_17 ?_
  case yp40_17 => go_simp; try with_reducible rfl
  simp only [Act.put, List.setIfInBounds_toArray, List.set_cons_zero, List.set_cons_succ]
  refine wpList_yield rfl _ (exec_assign _ rfl) ?_
  simp only [Act.put, Act.eval, Array.getD_eq_getD_getElem?, List.getElem?_toArray, List.getElem?_cons_succ, List.getElem?_cons_zero, Option.getD_some, List.setIfInBounds_toArray, List.set_cons_zero, List.set_cons_succ]
  refine wpList_nil ?_
  have V4 : Below w2.heap.size w2 w4 := bthen V3 V4 V3.size
  have b4 := b2.below V4 b2.lt
  have t4 := t2.below V4
  have y4 := y2.below V4
  have q4 := y3.below V4
  have B4 := bthen B2 V4 B2.size
  have hgx4 : Hid (0 < k → X = some ⟨gx, 0, none⟩ ∧ (∃ cs, Blk w4 gx 25 cs ∧ k * 32 ≤ cs.length) ∧ w0.heap.size ≤ gx ∧ gx < w1.heap.size) := Lib.hid (by
    intro h0
    obtain ⟨e, ⟨cs, hb, hl⟩, g1, g2⟩ := hgx2 h0
    exact ⟨e, ⟨cs, hb.below V4 (by omega), hl⟩, g1, g2⟩)
  have hOs : OverS k gx w4 w4 := ⟨Fr.refl _ _, fun h0 => (hgx4.out h0).2.1⟩
  have hkm : k ≤ 9223372036854775807 := by have := x2.cap; have := x2.max; unfold maxLen at this; omega
  clear hgx2 b2 c2 t2 x2 y2 y3 V3 V4 B2
  go_upto_region 19 with fail
  go_wp2_with fail
  go_loopw [26] (fun i wr => ∃ j : Nat, j ≤ k ∧ i = .int .i64 (j : Int) ∧ OverS k gx w4 wr) (fun i _ => k - (intOf i).toNat)
  case atStart => exact ⟨0, by omega, by go_num, hOs⟩
  case round =>
    clear hOs
    obtain ⟨j, hj, rfl, ov⟩ := hrel
    by_cases hlt : j < k
    · have hltz : (j : Int) < (k : Int) := by omega
      obtain ⟨cs', hbk, hcl⟩ := ov.blk (by omega)
      obtain ⟨hX, _, _, _⟩ := hgx4.out (by omega)
      subst hX
      have hfr := ov.fr
      clear ov
      go_upto_region 20 with fail
      refine wp_region_lit ?_
      refine wpList_yield rfl _ (exec_move _ rfl) ?_
      simp only [Act.put, Act.eval, Array.getD_eq_getD_getElem?, List.getElem?_toArray, List.getElem?_cons_succ, List.getElem?_cons_zero, Option.getD_some, List.setIfInBounds_toArray, List.set_cons_zero, List.set_cons_succ]
      refine wpList_yield rfl _ (exec_move _ rfl) ?_
      simp only [Act.put, Act.eval, Array.getD_eq_getD_getElem?, List.getElem?_toArray, List.getElem?_cons_succ, List.getElem?_cons_zero, Option.getD_some, List.setIfInBounds_toArray, List.set_cons_zero, List.set_cons_succ]
      refine wpList_yield rfl _ (exec_len132 _ rfl _ k cx rfl) ?_
      simp only [Act.put, List.setIfInBounds_toArray, List.set_cons_zero, List.set_cons_succ]
      refine wpList_yield rfl ?vp41_3 ?yp41_3 ?_
      case yp41_3 => go_simp; try with_reducible rfl
      simp only [Act.put, List.setIfInBounds_toArray, List.set_cons_zero, List.set_cons_succ]
      refine wpList_nil ?_
      go_upto_region 22 with fail
      refine wp_region_lit ?_
      refine wpList_yield rfl _ (exec_move _ rfl) ?_
      simp only [Act.put, Act.eval, Array.getD_eq_getD_getElem?, List.getElem?_toArray, List.getElem?_cons_succ, List.getElem?_cons_zero, Option.getD_some, List.setIfInBounds_toArray, List.set_cons_zero, List.set_cons_succ]
      refine wpList_yield rfl _ (exec_move _ rfl) ?_
      simp only [Act.put, Act.eval, Array.getD_eq_getD_getElem?, List.getElem?_toArray, List.getElem?_cons_succ, List.getElem?_cons_zero, Option.getD_some, List.setIfInBounds_toArray, List.set_cons_zero, List.set_cons_succ]
      refine wpList_yield rfl _ (exec_build _ rfl (bvs (7 :: zb 31)).toArray (by kernel_rfl)) ?_
      simp only [Act.put, List.setIfInBounds_toArray, List.set_cons_zero, List.set_cons_succ]
      refine wpList_yield rfl _ (exec_siaz0 _ _ rfl gx k cx j _ rfl rfl hlt) ?_
      simp only [Act.put, List.setIfInBounds_toArray, List.set_cons_zero, List.set_cons_succ]
      refine wpList_store_at at25w.i rfl (.tmp 164) (.tmp 163) rfl gx (j * 32) 25 cs' (bvs (7 :: zb 31)) rfl rfl hbk (by rfl) (by omega) (bvs_one _) ?_
      intro w5 b5 g5 s5
      (try simp only [Act.put, List.setIfInBounds_toArray, List.set_cons_zero, List.set_cons_succ])
      refine wpList_nil ?_
      have hOv : OverS k gx w4 w5 := ⟨hfr.grown g5 (by intro b hb; cases hb; exact .inl ⟨by omega, rfl⟩), fun _ => ⟨_, b5, by rw [splice_len _ _ _ (by rw [bvs_length]; simp only [List.length_cons, zb_length]; omega)]; exact hcl⟩⟩
      clear b5 g5 s5 hfr hbk hcl
      go_wp2_with fail
      go_roundw
      case rel => exact ⟨j + 1, by omega, by go_num, hOv⟩
      case measure => simp only [intOf]; omega
    · have hltz : ¬ (j : Int) < (k : Int) := by omega
      have hf := ov.fr
      have hgw := B0.size
      have t6 : Twin S T wr g G rs := ⟨t4.lg.fr hf (fun b s e => by have := h.lg.slt b s; have := (hgx4.out e.1).2.2; omega), t4.lr.fr hf (fun b s e => by have := h.lr.slt b s; have := (hgx4.out e.1).2.2; omega), h.ap⟩
      have y6 : Hl wr Y k cy ls := y4.fr hf (fun ad e u => by have := hY ad e; have := (hgx4.out u.1).2.2; omega)
      have q6 : Hl wr Z k cz ls := q4.fr hf (fun ad e u => by have := h.lr.slt _ (hZ ad e); have := (hgx4.out u.1).2.2; omega)
      have b6 : Blk wr w.heap.size 141 cs := b4.fr hf (fun u => by have := (hgx4.out u.1).2.2; omega)
      have B6 : Below w.heap.size w wr := ⟨hf.os.trans B4.os, hf.tape.trans B4.tape, hf.output.trans B4.output, Nat.le_trans B4.size hf.size, fun b hb => (hf.block b (by have := B4.size; omega) (fun u => by have := (hgx4.out u.1).2.2; omega)).trans (B4.block b hb)⟩
      have c6 := HC wr w.heap.size b6
      clear t4 y4 q4 b4 B4 hf ov hgx4
      go_upto_region 20 with fail
      refine wp_region_lit ?_
      refine wpList_yield rfl _ (exec_move _ rfl) ?_
      simp only [Act.put, Act.eval, Array.getD_eq_getD_getElem?, List.getElem?_toArray, List.getElem?_cons_succ, List.getElem?_cons_zero, Option.getD_some, List.setIfInBounds_toArray, List.set_cons_zero, List.set_cons_succ]
      refine wpList_yield rfl _ (exec_move _ rfl) ?_
      simp only [Act.put, Act.eval, Array.getD_eq_getD_getElem?, List.getElem?_toArray, List.getElem?_cons_succ, List.getElem?_cons_zero, Option.getD_some, List.setIfInBounds_toArray, List.set_cons_zero, List.set_cons_succ]
      refine wpList_yield rfl _ (exec_len132 _ rfl X k cx rfl) ?_
      simp only [Act.put, List.setIfInBounds_toArray, List.set_cons_zero, List.set_cons_succ]
      refine wpList_yield rfl ?vp42_3 ?yp42_3 ?_
      case yp42_3 => go_simp; try with_reducible rfl
      simp only [Act.put, List.setIfInBounds_toArray, List.set_cons_zero, List.set_cons_succ]
      refine wpList_nil ?_
      go_upto_region 23 with fail
      refine wp_region_lit ?_
      refine wpList_yield rfl _ (exec_move _ rfl) ?_
      simp only [Act.put, Act.eval, Array.getD_eq_getD_getElem?, List.getElem?_toArray, List.getElem?_cons_succ, List.getElem?_cons_zero, Option.getD_some, List.setIfInBounds_toArray, List.set_cons_zero, List.set_cons_succ]
      refine wpList_yield rfl _ (exec_c1 _ rfl w.heap.size rfl) ?_
      simp only [Act.put, List.setIfInBounds_toArray, List.set_cons_zero, List.set_cons_succ]
      refine wpList_yield rfl _ (exec_load3 _ rfl _ _ rfl c6.out.2.1) ?_
      simp only [Act.put, List.setIfInBounds_toArray, List.set_cons_zero, List.set_cons_succ]
      refine wpList_yield rfl _ (exec_c2 _ rfl w.heap.size rfl) ?_
      simp only [Act.put, List.setIfInBounds_toArray, List.set_cons_zero, List.set_cons_succ]
      refine wpList_yield rfl _ (exec_load3 _ rfl _ _ rfl c6.out.2.2) ?_
      simp only [Act.put, List.setIfInBounds_toArray, List.set_cons_zero, List.set_cons_succ]
      refine wpList_plain rfl fun K hK => ?_; go_simp
      with_reducible refine (R1 _ _ _ t6.lg).out.mono ?_
      rintro e w7 ⟨U, cu, rfl, u7, _, _, V7⟩
      refine hK _ _ ?_; clear hK
      (try simp only [Act.put, List.setIfInBounds_toArray, List.set_cons_zero, List.set_cons_succ])
      refine wpList_yield rfl _ (exec_move _ rfl) ?_
      simp only [Act.put, Act.eval, Array.getD_eq_getD_getElem?, List.getElem?_toArray, List.getElem?_cons_succ, List.getElem?_cons_zero, Option.getD_some, List.setIfInBounds_toArray, List.set_cons_zero, List.set_cons_succ]
      refine wpList_yield rfl ?vp43_7 ?yp43_7 ?_
      case yp43_7 => go_simp; try with_reducible rfl
      simp only [Act.put, List.setIfInBounds_toArray, List.set_cons_zero, List.set_cons_succ]
      refine wpList_yield rfl ?vp44_8 ?yp44_8 ?_
      case yp44_8 => go_simp; try with_reducible rfl
      simp only [Act.put, List.setIfInBounds_toArray, List.set_cons_zero, List.set_cons_succ]
      refine wpList_yield rfl _ (exec_assign _ rfl) ?_
      simp only [Act.put, Act.eval, Array.getD_eq_getD_getElem?, List.getElem?_toArray, List.getElem?_cons_succ, List.getElem?_cons_zero, Option.getD_some, List.setIfInBounds_toArray, List.set_cons_zero, List.set_cons_succ]
      refine wpList_yield rfl _ (exec_assign _ rfl) ?_
      simp only [Act.put, Act.eval, Array.getD_eq_getD_getElem?, List.getElem?_toArray, List.getElem?_cons_succ, List.getElem?_cons_zero, Option.getD_some, List.setIfInBounds_toArray, List.set_cons_zero, List.set_cons_succ]
      refine wpList_nil ?_
      have y7 := y6.below V7
      have q7 := q6.below V7
      have B7 := bthen B6 V7 B6.size
      clear t6 y6 q6 b6 c6 B6 V7 R1 R2
      go_upto_region 24 with fail
      refine wp_region_lit ?_
      refine wpList_yield rfl _ (exec_move _ rfl) ?_
      simp only [Act.put, Act.eval, Array.getD_eq_getD_getElem?, List.getElem?_toArray, List.getElem?_cons_succ, List.getElem?_cons_zero, Option.getD_some, List.setIfInBounds_toArray, List.set_cons_zero, List.set_cons_succ]
      refine wpList_yield rfl _ (exec_move _ rfl) ?_
      simp only [Act.put, Act.eval, Array.getD_eq_getD_getElem?, List.getElem?_toArray, List.getElem?_cons_succ, List.getElem?_cons_zero, Option.getD_some, List.setIfInBounds_toArray, List.set_cons_zero, List.set_cons_succ]
      refine wpList_yield_w rfl _ (exec_move _ rfl) ?_
      simp only [Act.put, Act.eval, Array.getD_eq_getD_getElem?, List.getElem?_toArray, List.getElem?_cons_succ, List.getElem?_cons_zero, Option.getD_some, List.setIfInBounds_toArray, List.set_cons_zero, List.set_cons_succ]
      refine wpList_yield_w rfl _ (exec_move _ rfl) ?_
      simp only [Act.put, Act.eval, Array.getD_eq_getD_getElem?, List.getElem?_toArray, List.getElem?_cons_succ, List.getElem?_cons_zero, Option.getD_some, List.setIfInBounds_toArray, List.set_cons_zero, List.set_cons_succ]
      refine wpList_plain_w rfl fun K hK => ?_; go_simp
      with_reducible refine (SM _ _ _ _ _ y7 q7).out.mono ?_
      rintro e w8 ⟨rfl, V8⟩
      refine hK _ _ ?_; clear hK
      (try simp only [Act.put, List.setIfInBounds_toArray, List.set_cons_zero, List.set_cons_succ])
      refine wpList_yield rfl ?vp45_5 ?yp45_5 ?_
      case yp45_5 => go_simp; try with_reducible rfl
      simp only [Act.put, List.setIfInBounds_toArray, List.set_cons_zero, List.set_cons_succ]
      refine wpList_yield rfl _ (exec_move _ rfl) ?_
      simp only [Act.put, Act.eval, Array.getD_eq_getD_getElem?, List.getElem?_toArray, List.getElem?_cons_succ, List.getElem?_cons_zero, Option.getD_some, List.setIfInBounds_toArray, List.set_cons_zero, List.set_cons_succ]
      refine wpList_yield_w rfl _ (exec_move _ rfl) ?_
      simp only [Act.put, Act.eval, Array.getD_eq_getD_getElem?, List.getElem?_toArray, List.getElem?_cons_succ, List.getElem?_cons_zero, Option.getD_some, List.setIfInBounds_toArray, List.set_cons_zero, List.set_cons_succ]
      refine wpList_yield_w rfl _ (exec_move _ rfl) ?_
      simp only [Act.put, Act.eval, Array.getD_eq_getD_getElem?, List.getElem?_toArray, List.getElem?_cons_succ, List.getElem?_cons_zero, Option.getD_some, List.setIfInBounds_toArray, List.set_cons_zero, List.set_cons_succ]
      refine wpList_plain_w rfl fun K hK => ?_; go_simp
      with_reducible refine (SM _ _ _ _ _ (u7.below V8) (q7.below V8)).out.mono ?_
      rintro e w9 ⟨rfl, V9⟩
      refine hK _ _ ?_; clear hK
      (try simp only [Act.put, List.setIfInBounds_toArray, List.set_cons_zero, List.set_cons_succ])
      refine wpList_yield rfl ?vp46_10 ?yp46_10 ?_
      case yp46_10 => go_simp; try with_reducible rfl
      simp only [Act.put, List.setIfInBounds_toArray, List.set_cons_zero, List.set_cons_succ]
      refine wpList_yield rfl _ (exec_assign _ rfl) ?_
      simp only [Act.put, Act.eval, Array.getD_eq_getD_getElem?, List.getElem?_toArray, List.getElem?_cons_succ, List.getElem?_cons_zero, Option.getD_some, List.setIfInBounds_toArray, List.set_cons_zero, List.set_cons_succ]
      refine wpList_nil ?_
      have B9 := bthen (bthen B7 V8 B7.size) V9 (bthen B7 V8 B7.size).size
      have HA := Lib.hid (ActS.of_below h B9)
      clear h y7 q7 u7 B7 V8 V9 SM
      go_wp2_with fail
      go_ret
      exact ⟨rfl, HA.out⟩
theorem act_any {S T : Nat → Prop} (g G : Nat) (rs : List (List UInt8)) (a : LAct) (ha : a.Ok) (w : World) (h : Twin S T w g G rs) (hf : rs.length < 4096) :
    Calls Try.prog 115 #[.pointer (some ⟨g, 0, none⟩), .pointer (some ⟨G, 0, none⟩), .agg a.cs.toArray] w fun e w' => e = .returned (.bool true) ∧ ActS S T g G rs w w' := by
  by_cases h0 : a.k = 0
  · exact act_add g G rs a ha h0 w h hf
  by_cases h1 : a.k = 1
  · exact act_headAt g G rs a ha h1 w h hf
  by_cases h2 : a.k = 2
  · exact act_at g G rs a ha h2 w h hf
  by_cases h3 : a.k = 3
  · exact act_roots g G rs a ha h3 w h hf
  by_cases h4 : a.k = 4
  · exact act_find g G rs a ha h4 w h hf
  by_cases h5 : a.k = 5
  · exact act_findHead g G rs a ha h5 w h hf
  by_cases h6 : a.k = 6
  · exact act_len g G rs a ha h6 w h hf
  · exact act_else g G rs a ha ⟨h0, h1, h2, h3, h4, h5, h6⟩ w h hf
end Go.Proofs.Ytehbahobkgoapaa
