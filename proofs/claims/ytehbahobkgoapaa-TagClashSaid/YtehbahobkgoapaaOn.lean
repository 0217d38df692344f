/- The walk of OctetNumbers: it says true for every parts and numbers. -/
import Derived.Test.YtehbahobkgoapaaOc
namespace Go.Proofs.Ytehbahobkgoapaa
open Go Go.RowKit
set_option linter.unusedSimpArgs false
set_option linter.unusedVariables false

theorem OwnB.shape' {w : World} {base E : Nat} {v : Value} {l : List UInt8} (h : OwnB w base E v l) : ∃ A n c, v = .slice A n c := by
  obtain ⟨A, c, e, _⟩ := h.rd
  exact ⟨A, _, c, e⟩
theorem ownsRow_blk {w : World} {base e z n : Nat} {v : Value} {xs : List Value} (h : w.ownsRow base e z v n xs) {g : Nat} (hg : v.ownBlock = some g) : base ≤ g ∧ ∃ cs, Blk w g e cs := by
  obtain ⟨hl, h⟩ := h
  rcases h with ⟨rfl, rfl⟩ | ⟨g', cap, cur, rfl, hg', hh, _⟩
  · simp [Value.ownBlock] at hg
  · simp [Value.ownBlock] at hg; subst hg
    exact ⟨hg', cur.toList, by simpa [Blk] using hh⟩
theorem ownsRow_pos {w : World} {base e z n : Nat} {v : Value} {xs : List Value} (h : w.ownsRow base e z v (n + 1) xs) : ∃ g c, v = .slice (some ⟨g, 0, none⟩) (n + 1) c := by
  rcases h.2 with ⟨_, h⟩ | ⟨g, cap, cur, hv, _⟩
  · omega
  · exact ⟨g, cap, hv⟩
theorem ownsRow_below {w w' : World} {base e z n : Nat} {v : Value} {xs : List Value} (h : w.ownsRow base e z v n xs) (hb : Below w.heap.size w w') : w'.ownsRow base e z v n xs := by
  obtain ⟨hl, h⟩ := h
  refine ⟨hl, ?_⟩
  rcases h with h | ⟨g, cap, cur, hv, hg, hh, r⟩
  · exact .inl h
  · have hlt : g < w.heap.size := by
      rcases Nat.lt_or_ge g w.heap.size with hlt | hge
      · exact hlt
      · rw [Array.getElem?_eq_none hge] at hh; cases hh
    exact .inr ⟨g, cap, cur, hv, hg, (hb.block g hlt).trans hh, r⟩

/-- Each value is a lent copy of its list. -/
def LentRow (w : World) (us : List Value) (ls : List (List UInt8)) : Prop :=
  us.length = ls.length ∧ ∀ (i : Nat) (u : Value) (l : List UInt8), us[i]? = some u → ls[i]? = some l → ∃ g, u = .slice (some ⟨g, 0, none⟩) l.length (l.length + 5) ∧ Blk w g 5 (bvs (lentAll l))
theorem LentRow.nil (w : World) : LentRow w [] [] := ⟨rfl, fun i u l h => by simp at h⟩
theorem LentRow.keep {w w' : World} {us : List Value} {ls : List (List UInt8)} (h : LentRow w us ls) (hk : ∀ g cs, Blk w g 5 cs → w'.heap[g]? = w.heap[g]?) : LentRow w' us ls :=
  ⟨h.1, fun i u l hu hl => by
    obtain ⟨g, e, hb⟩ := h.2 i u l hu hl
    exact ⟨g, e, (hk g _ hb).trans hb⟩⟩
theorem LentRow.below {w w' : World} {us : List Value} {ls : List (List UInt8)} (h : LentRow w us ls) (hb : Below w.heap.size w w') : LentRow w' us ls := h.keep fun g cs hg => hb.block g hg.lt
theorem LentRow.grown {w w' : World} {us : List Value} {ls : List (List UInt8)} (h : LentRow w us ls) {base z n : Nat} {v : Value} {xs : List Value} (ho : w.ownsRow base 24 z v n xs) (hb : w.grownBy w' v.ownBlock) : LentRow w' us ls :=
  h.keep fun g cs hg => hb.block g hg.lt fun e => by
    obtain ⟨_, ds, hd⟩ := ownsRow_blk ho e.symm
    exact hg.ne hd (by decide) rfl
theorem LentRow.snoc {w : World} {us : List Value} {ls : List (List UInt8)} (h : LentRow w us ls) {l : List UInt8} {g : Nat} (hb : Blk w g 5 (bvs (lentAll l))) : LentRow w (us ++ [.slice (some ⟨g, 0, none⟩) l.length (l.length + 5)]) (ls ++ [l]) :=
  ⟨by simp [h.1], fun i u m hu hm => by
    rcases Nat.lt_or_ge i us.length with hi | hi
    · rw [List.getElem?_append_left hi] at hu
      rw [List.getElem?_append_left (by rw [← h.1]; exact hi)] at hm
      exact h.2 i u m hu hm
    · rw [List.getElem?_append_right hi] at hu
      rw [List.getElem?_append_right (by rw [← h.1]; exact hi), ← h.1] at hm
      rcases Nat.eq_zero_or_pos (i - us.length) with h0 | h0
      · rw [h0] at hu hm
        simp at hu hm
        subst hu; subst hm
        exact ⟨g, rfl, hb⟩
      · rw [List.getElem?_eq_none (by simp; omega)] at hu; cases hu⟩
theorem lentAll_length (l : List UInt8) : (lentAll l).length = l.length + 5 := by simp [lentAll]
theorem LentRow.allRd {w : World} {us : List Value} {ls : List (List UInt8)} (h : LentRow w us ls) : AllRd w us ls :=
  ⟨h.1, fun i u l hu hl => by
    obtain ⟨g, rfl, hb⟩ := h.2 i u l hu hl
    exact ⟨_, l.length + 5, rfl, by omega, Rd.of_blk0 (es := bvs ((List.range 5).map (fun i => mark (l.length + i)))) (by rw [← bvs_append]; exact hb)⟩⟩
theorem LentRow.full {w : World} {us : List Value} {ls : List (List UInt8)} (h : LentRow w us ls) (hm : ∀ l ∈ ls, l.length + 5 ≤ maxLen) : AllFull w us (ls.map lentAll) := fun i u L hu hL => by
  rw [List.getElem?_map] at hL
  obtain ⟨l, hl, rfl⟩ := Option.map_eq_some_iff.1 hL
  obtain ⟨g, rfl, hb⟩ := h.2 i u l hu hl
  exact .inr ⟨g, l.length, by rw [lentAll_length], by rw [lentAll_length]; omega, by rw [lentAll_length]; exact hm l (List.mem_of_getElem? hl), hb⟩
theorem Within.sepTy {w : World} {lo hi G : Nat} {vs : List Value} {Ls : List (List UInt8)} (h : Within lo hi vs) (hl : vs.length = Ls.length) (hf : AllFull w vs Ls) {t : Nat} {cs : List Value} (hG : Blk w G t cs) (ht : t ≠ 5) : Sep G vs := by
  refine ⟨(h.sep (G := hi) (Nat.le_refl _)).1, ?_⟩
  rintro ⟨i, v, hv, hg⟩
  have hi : i < Ls.length := by rw [← hl]; exact (List.getElem?_eq_some_iff.1 hv).1
  rcases hf i v _ hv (List.getElem?_eq_getElem hi) with ⟨rfl, _⟩ | ⟨g, n, rfl, _, _, hb⟩
  · simp [Value.ownBlock] at hg
  · simp [Value.ownBlock] at hg; subst hg
    exact hG.ne hb ht rfl
theorem flat_le (ls : List (List UInt8)) : ∀ l ∈ ls, l.length ≤ ls.flatten.length := by
  induction ls with
  | nil => simp
  | cons a ls ih =>
    intro l hl
    simp only [List.flatten_cons, List.length_append]
    rcases List.mem_cons.1 hl with rfl | hl
    · omega
    · have := ih l hl; omega

theorem _root_.Go.RowKit.Below.then {a b c : World} (h : Below a.heap.size a b) (k : Below b.heap.size b c) : Below a.heap.size a c := h.trans (k.mono h.size)

set_option maxHeartbeats 4000000 in
set_option maxRecDepth 100000 in
theorem octet_numbers (A : Option Addr) (n c : Nat) (vs : List Value) (ls : List (List UInt8)) (a b : Int) (w : World) (hr : Rd w A vs) (ha : AllRd w vs ls) (hl : ls.length = n) (hnc : n ≤ c) (hn : n ≤ 1099511627000) (hb : ls.flatten.length ≤ 140737488351232)
    (wa : -9223372036854775808 ≤ a ∧ a ≤ 9223372036854775807) (wb : -9223372036854775808 ≤ b ∧ b ≤ 9223372036854775807) :
   Calls Try.prog 4 #[.slice A n c, .int .i64 a, .int .i64 b] w fun e w' => e = .returned (.bool true) ∧ Below w.heap.size w w' := by
  have HN := Lib.hid hl
  have HL := Lib.hid ha.1
  have HF := Lib.hid (flat_le ls)
  have HB := Lib.hid hb
  go_enter Try.func4, Try.ntmps4
  go_wp2_with fail
  go_loopw [7, 8] (fun v i wr => ∃ (k : Nat) (us : List Value), k ≤ n ∧ i = .int .i64 (k : Int) ∧ wr.ownsRow w.heap.size 24 1 v k us ∧ LentRow wr us (ls.take k) ∧ Within w.heap.size wr.heap.size us ∧ Below w.heap.size w wr) (fun _ i _ => n - (intOf i).toNat)
  case atStart => exact ⟨0, [], by omega, by go_num, World.ownsRow_nil _ _ _ _, LentRow.nil _, Within.nil (Nat.le_refl _), Below.refl _ _⟩
  case round =>
    obtain ⟨k, us, hk, rfl, ho, hlr, hwi, hwr⟩ := hrel
    by_cases hlt : k < n
    · have hltl : k < ls.length := by have := HN.out; omega
      obtain ⟨v, hv⟩ : ∃ v, vs[k]? = some v := ⟨_, List.getElem?_eq_getElem (by have := HL.out; omega)⟩
      obtain ⟨ad, rfl, hcc⟩ := hr (by have := HL.out; omega)
      have hc : wr.cell? (ad.add k) = some v := (hwr.cell (World.block_lt_of_cell? w _ (hcc k v hv))).trans (hcc k v hv)
      obtain ⟨A1, d, rfl, hd, hrd⟩ := ha.2 k v ls[k] hv (List.getElem?_eq_getElem hltl)
      have hlk : ls[k].length ≤ 140737488351232 := Nat.le_trans (HF.out _ (List.getElem_mem hltl)) HB.out
      have HT := Lib.hid (List.take_succ_eq_append_getElem hltl)
      generalize hl' : ls[k] = l at *
      clear hv hcc hl'
      go_wp2_with fail
      refine (lent A1 l.length d l wr (hrd.below hwr) rfl hlk).mono ?_
      rintro e wn ⟨rfl, hbp, hwp, hz⟩
      have HZ := Lib.hid hz; clear hz
      have ho := ownsRow_below ho hwp
      have hlr := hlr.below hwp
      have hd1 : Below wn.heap.size wn (wn.alloc (.cells #[.slice (some ⟨wr.heap.size, 0, none⟩) l.length (l.length + 5)] 24)) := (Below.refl _ _).alloc (Nat.le_refl _) _
      have hblk : Blk (wn.alloc (.cells #[.slice (some ⟨wr.heap.size, 0, none⟩) l.length (l.length + 5)] 24)) wn.heap.size 24 [.slice (some ⟨wr.heap.size, 0, none⟩) l.length (l.length + 5)] := Blk.new _ _ _
      have hBn : Below w.heap.size w wn := hwr.trans (hwp.mono hwr.size)
      have hBa := hBn.trans (hd1.mono hBn.size)
      go_wp2_with ((with_reducible refine at_dst 33 ?_); refine wpList_append_row Try.underlying30 et24 rfl (.tmp 26) (.tmp 32) rfl w.heap.size u7 k us rfl (ownsRow_below ho hd1) (some ⟨wn.heap.size, 0, none⟩) 1 1 _ rfl rfl (Rd.one_blk hblk) (by simp [Value.oneCell']) (by unfold maxLen; omega) (by omega) hBa.size ?_; intro v1 w1 ho1 hg1)
      go_roundw
      case rel =>
        refine ⟨k + 1, us ++ [.slice (some ⟨wr.heap.size, 0, none⟩) l.length (l.length + 5)], by omega, by go_num, ho1, ?_, ?_, ?_⟩
        · rw [HT.out]
          exact ((hlr.snoc hbp).below hd1).grown (ownsRow_below ho hd1) hg1
        · have h1 : Within w.heap.size wn.heap.size (us ++ [.slice (some ⟨wr.heap.size, 0, none⟩) l.length (l.length + 5)]) :=
            hwi.up (Within.one (by have := HZ.out; omega) fun g hg => by simp [Value.ownBlock] at hg; have := HZ.out; omega)
          exact h1.mono (Nat.le_refl _) (Nat.le_trans hd1.size hg1.size)
        · exact hBa.grown hg1 hBa.size (fun g hg => (ownsRow_blk ho hg).1)
      case measure => simp [intOf]; omega
    · obtain rfl : k = n := by omega
      have HN' := HN
      have hlr : LentRow wr us ls := by have := HN.out; rw [← this, List.take_length] at hlr; exact hlr
      clear hlt hk
      obtain ⟨AL, cL, rfl, hcl, hcm, hrl⟩ := ownsRow_rd ho
      go_wp2_with fail
      refine (join_any AL k cL us ls wr HN.out hrl hlr.allRd (by have := HN.out; omega) (by have := HB.out; omega)).mono ?_
      rintro e w1 ⟨x1, rfl, o1, b1⟩
      go_wp2_with fail
      refine (put16 a w1 wa).mono ?_
      rintro e w2 ⟨x2, rfl, o2, b2⟩
      go_wp2_with fail
      refine (put32 b w2 wb).mono ?_
      rintro e w3 ⟨x3, rfl, o3, b3⟩
      go_wp2_with fail
      refine (rput a 2 65535 w3 (.inl ⟨rfl, rfl⟩) wa).mono ?_
      rintro e w4 ⟨x4, rfl, o4, b4⟩
      go_wp2_with fail
      refine (rput b 4 4294967295 w4 (.inr ⟨rfl, rfl⟩) wb).mono ?_
      rintro e w5 ⟨x5, rfl, o5, b5⟩
      go_wp2_with fail
      refine (rjoin A k c vs ls w5 HN.out (hr.below (hwr.trans ((b1.then (b2.then (b3.then (b4.then b5)))).mono hwr.size))) (ha.below (hwr.trans ((b1.then (b2.then (b3.then (b4.then b5)))).mono hwr.size))) (by have := HN.out; omega) (by have := HB.out; omega)).mono ?_
      rintro e w6 ⟨x6, rfl, o6, b6⟩
      have c5 := b6
      have c4 := b5.then c5
      have c3 := b4.then c4
      have c2 := b3.then c3
      have c1 := b2.then c2
      have cr := b1.then c1
      have q1 := o1.below c1 (Nat.le_refl _)
      have q2 := o2.below c2 (Nat.le_refl _)
      have q3 := o3.below c3 (Nat.le_refl _)
      have q4 := o4.below c4 (Nat.le_refl _)
      have q5 := o5.below c5 (Nat.le_refl _)
      have hwi := Lib.hid (((hwi.up (o1.within b1.size)).up (o2.within b2.size)).up (o3.within b3.size))
      have hB6 : Below w.heap.size w w6 := hwr.trans (cr.mono hwr.size)
      have hH3 : w3.heap.size ≤ w6.heap.size := c3.size
      have hB6' := cr
      have ho := ownsRow_below ho cr
      have hlr := hlr.below cr
      have HB6 : Hid (∀ l ∈ ls, l.length ≤ 140737488351232) := fun l hl => by have := HF.out l hl; have := HB.out; omega
      have HB5 : Hid (∀ l ∈ ls, l.length + 5 ≤ maxLen) := fun l hl => by have := HF.out l hl; have := HB.out; unfold maxLen; omega
      clear HF
      have hP2 : Hid ((putL 2 65535 a).length ≤ 4) := by show _ ≤ _; unfold putL; split <;> simp [be_length]
      have hP4 : Hid ((putL 4 4294967295 b).length ≤ 4) := by show _ ≤ _; unfold putL; split <;> simp [be_length]
      generalize ls.flatten = L1 at *
      generalize putL 2 65535 a = L2 at *
      generalize putL 4 4294967295 b = L3 at *
      generalize putE 65535 a = e2 at *
      generalize putE 4294967295 b = e3 at *
      obtain ⟨s1, f1, _⟩ := q1.full
      obtain ⟨s2, f2, _⟩ := q2.full
      obtain ⟨s3, f3, _⟩ := q3.full
      obtain ⟨A1, d1, rfl, _, _, r1⟩ := q1.rd
      obtain ⟨A2, d2, rfl, _, _, r2⟩ := q2.rd
      obtain ⟨A3, d3, rfl, _, _, r3⟩ := q3.rd
      obtain ⟨A4, d4, rfl, _, _, r4⟩ := q4.rd
      obtain ⟨A5, d5, rfl, _, _, r5⟩ := q5.rd
      obtain ⟨A6, d6, rfl, _, _, r6⟩ := o6.rd
      clear q1 q2 q3 q4 q5 o1 o2 o3 o4 o5 o6 b1 b2 b3 b4 b5 b6 c1 c2 c3 c4 c5 cr
      go_wp2_with fail
      refine (same_bytes A1 _ d1 _ A6 _ d6 _ w6 r1 rfl r6 rfl).mono ?_
      rintro e w7 ⟨rfl, rfl⟩
      go_wp2_with fail
      refine (same_bytes A2 _ d2 _ A4 _ d4 _ w6 r2 rfl r4 rfl).mono ?_
      rintro e w7 ⟨rfl, rfl⟩
      go_wp2_with fail
      refine (same_bytes A3 _ d3 _ A5 _ d5 _ w6 r3 rfl r5 rfl).mono ?_
      rintro e w7 ⟨rfl, rfl⟩
      go_wp2_with fail
      clear r1 r2 r3 r4 r5 r6
      have hrl6 := hrl.below (hB6' : Below wr.heap.size wr w6)
      have hr6 : Rd w6 A vs := hr.below hB6
      have ha6 : AllRd w6 vs ls := ha.below hB6
      go_loopw [19] (fun i wr => ∃ q : Nat, q ≤ k ∧ i = .int .i64 (q : Int) ∧ Below w6.heap.size w6 wr) (fun i _ => k - (intOf i).toNat)
      case atStart => exact ⟨0, by omega, by go_num, Below.refl _ _⟩
      case round =>
        obtain ⟨q, hq, rfl, hx6⟩ := hrel
        by_cases hlt : q < k
        · obtain ⟨v, hv⟩ : ∃ v, vs[q]? = some v := ⟨_, List.getElem?_eq_getElem (by have := HL.out; have := HN.out; omega)⟩
          obtain ⟨u, hu⟩ : ∃ u, us[q]? = some u := ⟨_, List.getElem?_eq_getElem (by have := hlr.1; have := HN.out; omega)⟩
          obtain ⟨x, hx⟩ : ∃ x, ls[q]? = some x := ⟨_, List.getElem?_eq_getElem (by have := HN.out; omega)⟩
          obtain ⟨ad, rfl, hcc⟩ := hr6 (by have := HL.out; have := HN.out; omega)
          obtain ⟨al, rfl, hcl⟩ := hrl6 (by have := hlr.1; have := HN.out; omega)
          obtain ⟨Ax, d, rfl, hd, hrd⟩ := ha6.2 q v x hv hx
          obtain ⟨g, rfl, hbg⟩ := hlr.2 q u x hu hx
          have hxl : x.length ≤ 140737488351232 := HB6.out x (List.mem_of_getElem? hx)
          have hc1 : wr.cell? (ad.add q) = some (.slice Ax x.length d) := (hx6.cell (World.block_lt_of_cell? _ _ (hcc q _ hv))).trans (hcc q _ hv)
          have hc2 : wr.cell? (al.add q) = some (.slice (some ⟨g, 0, none⟩) x.length (x.length + 5)) := (hx6.cell (World.block_lt_of_cell? _ _ (hcl q _ hu))).trans (hcl q _ hu)
          have hrg : Rd w6 (some ⟨g, 0, none⟩) (bvs (lentAll x)) := Rd.of_blk0 (es := []) (by simpa using hbg)
          clear hv hu hx hcc hcl
          go_wp2_with fail
          refine rg_begin (Below wr.heap.size wr) [] [8] [0, 1, 2, 3, 4, 5, 6, 7, 8, 9] 0 mixed (by kernel_rfl) (fun _ _ _ _ e hh => ⟨e.symm.trans hh.1, hh.2⟩) ?_
          simp only [pick, List.map_cons, List.map_nil, List.getD_cons_zero, List.getD_cons_succ]
          have hR : (Below wr.heap.size wr) _ := (Below.refl _ _).drew
          refine rg_take (v := ?v1_0) rfl rfl hR ?y1_0 ?_
          case y1_0 => intro W hW; (try subst hW); go_simp; try with_reducible rfl
          simp only [Act.put, List.setIfInBounds_toArray, List.set_cons_zero, List.set_cons_succ]
          refine rg_take (v := ?v1_1) rfl rfl hR ?y1_1 ?_
          case y1_1 => intro W hW; (try subst hW); go_simp; try with_reducible rfl
          simp only [Act.put, List.setIfInBounds_toArray, List.set_cons_zero, List.set_cons_succ]
          refine rg_take (v := ?v1_2) rfl rfl hR ?y1_2 ?_
          case y1_2 => intro W hW; (try subst hW); go_simp; try with_reducible rfl
          simp only [Act.put, List.setIfInBounds_toArray, List.set_cons_zero, List.set_cons_succ]
          refine rg_take (v := ?v1_3) rfl rfl hR ?y1_3 ?_
          case y1_3 => intro W hW; have hcw := (Below.cell hW (World.block_lt_of_cell? _ _ hc2)).trans hc2; go_simp; try with_reducible rfl
          simp only [Act.put, List.setIfInBounds_toArray, List.set_cons_zero, List.set_cons_succ]
          refine rg_take (v := ?v1_4) rfl rfl hR ?y1_4 ?_
          case y1_4 => intro W hW; (try subst hW); go_simp; try with_reducible rfl
          simp only [Act.put, List.setIfInBounds_toArray, List.set_cons_zero, List.set_cons_succ]
          refine rg_take (v := ?v1_5) rfl rfl hR ?y1_5 ?_
          case y1_5 => intro W hW; (try subst hW); go_simp; try with_reducible rfl
          simp only [Act.put, List.setIfInBounds_toArray, List.set_cons_zero, List.set_cons_succ]
          refine rg_take (v := ?v1_6) rfl rfl hR ?y1_6 ?_
          case y1_6 => intro W hW; (try subst hW); go_simp; try with_reducible rfl
          simp only [Act.put, List.setIfInBounds_toArray, List.set_cons_zero, List.set_cons_succ]
          refine rg_take (v := ?v1_7) rfl rfl hR ?y1_7 ?_
          case y1_7 => intro W hW; have hcw := (Below.cell hW (World.block_lt_of_cell? _ _ hc1)).trans hc1; go_simp; try with_reducible rfl
          simp only [Act.put, List.setIfInBounds_toArray, List.set_cons_zero, List.set_cons_succ]
          refine rg_one rfl rfl ?_; intro K hK; go_simp
          refine (kept_bytes ⟨g, 0, none⟩ Ax x.length d x _ (hrd.below (hx6.then hR)) rfl (by omega) (hrg.below (hx6.then hR))).mono ?_
          rintro e wn ⟨rfl, hn⟩
          have hR := hR.then hn
          refine hK _ _ (fun _ => hR) ?_; clear hK hn
          refine rg_take (v := ?v1_9) rfl rfl hR ?y1_9 ?_
          case y1_9 => intro W hW; (try subst hW); go_simp; try with_reducible rfl
          simp only [Act.put, List.setIfInBounds_toArray, List.set_cons_zero, List.set_cons_succ]
          refine rg_done (by kernel_rfl) ?_
          go_wp2_with fail
          go_roundw
          case rel => exact ⟨q + 1, by omega, by go_num, hx6.then hR⟩
          case measure => simp [intOf]; omega
        · have ho := ownsRow_below ho hx6
          have hd1 : Below wr.heap.size wr (wr.alloc (.cells #[.slice A1 L1.length d1, .slice A2 L2.length d2, .slice A3 L3.length d3] 24)) := (Below.refl _ _).alloc (Nat.le_refl _) _
          have hblk : Blk (wr.alloc (.cells #[.slice A1 L1.length d1, .slice A2 L2.length d2, .slice A3 L3.length d3] 24)) wr.heap.size 24 [.slice A1 L1.length d1, .slice A2 L2.length d2, .slice A3 L3.length d3] := Blk.new _ _ _
          have hoa := ownsRow_below ho hd1
          have hBa : Below w.heap.size w (wr.alloc (.cells #[.slice A1 L1.length d1, .slice A2 L2.length d2, .slice A3 L3.length d3] 24)) := hB6.trans ((hx6.then hd1).mono hB6.size)
          have hfa : AllFull (wr.alloc (.cells #[.slice A1 L1.length d1, .slice A2 L2.length d2, .slice A3 L3.length d3] 24)) (us ++ [.slice A1 L1.length d1, .slice A2 L2.length d2, .slice A3 L3.length d3]) (ls.map lentAll ++ [L1 ++ s1, L2 ++ s2, L3 ++ s3]) :=
            (AllFull.append (by simp [hlr.1]) (hlr.full HB5.out) (AllFull.cons f1 (AllFull.cons f2 (AllFull.cons f3 (AllFull.nil _))))).below (by simp [hlr.1]) (hx6.then hd1)
          have hvl : (us ++ [Value.slice A1 L1.length d1, .slice A2 L2.length d2, .slice A3 L3.length d3]).length = (ls.map lentAll ++ [L1 ++ s1, L2 ++ s2, L3 ++ s3]).length := by simp [hlr.1]
          have hLl : (ls.map lentAll ++ [L1 ++ s1, L2 ++ s2, L3 ++ s3]).length = k + 3 := by simp [HN.out]
          have hws : Within w.heap.size w3.heap.size (us ++ [Value.slice A1 L1.length d1, .slice A2 L2.length d2, .slice A3 L3.length d3]) := by have := hwi.out; simpa using this
          go_wp2_with ((with_reducible refine at_dst 105 ?_); refine wpList_append_row Try.underlying30 et24 rfl (.tmp 100) (.tmp 104) rfl w.heap.size (.slice AL k cL) k us rfl hoa (some ⟨wr.heap.size, 0, none⟩) 3 3 _ rfl rfl (Rd.of_blk0 (es := []) (by simpa using hblk)) (by simp [Value.oneCell']) (by unfold maxLen; omega) (by omega) hBa.size ?_; intro v1 wp ho1 hg1)
          generalize us ++ [Value.slice A1 L1.length d1, .slice A2 L2.length d2, .slice A3 L3.length d3] = vz at *
          generalize ls.map lentAll ++ [L1 ++ s1, L2 ++ s2, L3 ++ s3] = Lz at *
          generalize wr.alloc (.cells #[.slice A1 L1.length d1, .slice A2 L2.length d2, .slice A3 L3.length d3] 24) = wq at *
          obtain ⟨G, C, rfl⟩ := ownsRow_pos (n := k + 2) ho1
          obtain ⟨_, cs, hG⟩ := ownsRow_blk (g := G) ho1 rfl
          obtain ⟨_, _, hcc, _, _, hrz⟩ := ownsRow_rd ho1
          injection hcc with hcc _ _
          subst hcc
          have hfz : AllFull wp vz Lz := hfa.keep fun g hg => hg1.block g (hfa.lt hvl hg) fun e => by
            obtain ⟨_, ds, hds⟩ := ownsRow_blk hoa e.symm
            obtain ⟨i, v, hv, hb⟩ := hg
            have hi : i < Lz.length := by rw [← hvl]; exact (List.getElem?_eq_some_iff.1 hv).1
            rcases hfa i v _ hv (List.getElem?_eq_getElem hi) with ⟨rfl, _⟩ | ⟨g', m, rfl, _, _, hb'⟩
            · simp [Value.ownBlock] at hb
            · simp [Value.ownBlock] at hb; subst hb
              exact hb'.ne hds (by decide) rfl
          refine (apart_bytes' G (k + 3) C vz Lz wp hLl hrz hvl hfz (hws.sepTy hvl hfz hG (by decide)) (by omega)).mono ?_
          rintro e wn ⟨rfl, hn⟩
          go_wp2_with fail
          go_ret
          have hBp : Below w.heap.size w wp := hBa.grown hg1 hBa.size (fun g hg => (ownsRow_blk hoa hg).1)
          exact ⟨rfl, hBp.trans (hn.mono hBp.size)⟩
end Go.Proofs.Ytehbahobkgoapaa
