/- The contract of ApartBytes: of byte slices that lie in unlike blocks it says true, and leaves all as it was. -/
import Derived.Test.YtehbahobkgoapaaKib
import Derived.Test.YtehbahobkgoapaaSl
namespace Go.Proofs.Ytehbahobkgoapaa
open Go Go.RowKit
set_option linter.unusedSimpArgs false
set_option linter.unusedVariables false

theorem Full.keep {w w' : World} {v : Value} {L : List UInt8} (h : Full w v L) (hk : ∀ g, v.ownBlock = some g → w'.heap[g]? = w.heap[g]?) : Full w' v L := by
  rcases h with h | ⟨g, n, rfl, hn, hm, hb⟩
  · exact .inl h
  · exact .inr ⟨g, n, rfl, hn, hm, (hk g rfl).trans hb⟩
theorem Full.rd {w : World} {v : Value} {L : List UInt8} (h : Full w v L) : ∃ A n, v = .slice A n L.length ∧ n ≤ L.length ∧ Rd w A (bvs L) := by
  rcases h with ⟨rfl, rfl⟩ | ⟨g, n, rfl, hn, hm, hb⟩
  · exact ⟨none, 0, rfl, by simp, Rd.nil _ _⟩
  · exact ⟨_, n, rfl, hn, Rd.of_blk0 (es := []) (by simpa using hb)⟩
theorem Full.lt {w : World} {v : Value} {L : List UInt8} (h : Full w v L) {g : Nat} (hg : v.ownBlock = some g) : g < w.heap.size := by
  rcases h with ⟨rfl, rfl⟩ | ⟨g', n, rfl, hn, hm, hb⟩
  · simp [Value.ownBlock] at hg
  · simp [Value.ownBlock] at hg; subst hg; exact hb.lt
theorem Full.cells {w w' : World} {v : Value} {L : List UInt8} (h : Full w v L) (h' : Full w' v L) {g : Nat} (hg : v.ownBlock = some g) : w'.heap[g]? = w.heap[g]? := by
  rcases h with ⟨rfl, rfl⟩ | ⟨g', n, rfl, hn, hm, hb⟩
  · simp [Value.ownBlock] at hg
  · simp [Value.ownBlock] at hg
    subst hg
    rcases h' with ⟨h1, _⟩ | ⟨g2, n2, h1, _, _, hb2⟩
    · cases h1
    · injection h1 with h1 _ _
      injection h1 with h1
      injection h1 with h1
      subst h1
      exact hb2.trans hb.symm
theorem over_full (v : Value) (L : List UInt8) (w : World) (h : Full w v L) :
   Calls Try.prog 42 #[v] w fun e w' => e = .returned (.tuple #[]) ∧ Full w' v (flip8 L) ∧ w.grownBy w' v.ownBlock ∧ w'.heap.size = w.heap.size := by
  rcases h with ⟨rfl, rfl⟩ | ⟨g, n, rfl, hn, hm, hb⟩
  · exact (over_nil w).mono fun e w' ⟨h1, h2⟩ => by subst h2; exact ⟨h1, .inl ⟨rfl, rfl⟩, World.grownBy.refl _ _, rfl⟩
  · exact (over_bytes g n L w hb hn hm).mono fun e w' ⟨h1, h2, h3, h4⟩ => ⟨h1, .inr ⟨g, n, by rw [flip8_length], by rwa [flip8_length], by rwa [flip8_length], h2⟩, h3, h4⟩

def AllFull (w : World) (vs : List Value) (Ls : List (List UInt8)) : Prop := ∀ (i : Nat) (v : Value) (L : List UInt8), vs[i]? = some v → Ls[i]? = some L → Full w v L
def OwnSet (vs : List Value) (k : Nat) : Prop := ∃ (i : Nat) (v : Value), vs[i]? = some v ∧ v.ownBlock = some k
/-- No two lie in one block, none in block G. -/
def Sep (G : Nat) (vs : List Value) : Prop :=
  (∀ (i j : Nat) (v v' : Value) (g : Nat), i ≠ j → vs[i]? = some v → vs[j]? = some v' → v.ownBlock = some g → v'.ownBlock ≠ some g) ∧ ¬ OwnSet vs G

theorem AllFull.keep {w w' : World} {vs : List Value} {Ls : List (List UInt8)} (h : AllFull w vs Ls) (hk : ∀ g, OwnSet vs g → w'.heap[g]? = w.heap[g]?) : AllFull w' vs Ls :=
  fun i v L hv hL => (h i v L hv hL).keep fun g hg => hk g ⟨i, v, hv, hg⟩
theorem AllFull.lt {w : World} {vs : List Value} {Ls : List (List UInt8)} (h : AllFull w vs Ls) (hl : vs.length = Ls.length) {g : Nat} (hg : OwnSet vs g) : g < w.heap.size := by
  obtain ⟨i, v, hv, hb⟩ := hg
  have hi : i < Ls.length := by rw [← hl]; exact (List.getElem?_eq_some_iff.1 hv).1
  exact (h i v _ hv (List.getElem?_eq_getElem hi)).lt hb
theorem AllFull.below {w w' : World} {vs : List Value} {Ls : List (List UInt8)} (h : AllFull w vs Ls) (hl : vs.length = Ls.length) (hb : Below w.heap.size w w') : AllFull w' vs Ls :=
  h.keep fun g hg => hb.block g (h.lt hl hg)
theorem AllFull.set_ {w w' : World} {vs : List Value} {Ls : List (List UInt8)} {i : Nat} {v : Value} {L' : List UInt8} (h : AllFull w vs Ls) (hl : vs.length = Ls.length) {G : Nat} (hs : Sep G vs) (hv : vs[i]? = some v)
    (hf : Full w' v L') (hg : w.grownBy w' v.ownBlock) : AllFull w' vs (Ls.set i L') := by
  intro j u L hu hL
  by_cases hij : i = j
  · subst hij
    rw [hv] at hu
    cases hu
    have hi : i < Ls.length := by rw [← hl]; exact (List.getElem?_eq_some_iff.1 hv).1
    rw [List.getElem?_set_self hi] at hL
    cases hL
    exact hf
  · rw [List.getElem?_set_ne hij] at hL
    have h1 := h j u L hu hL
    exact h1.keep fun g hgu => hg.block g (h1.lt hgu) fun e => hs.1 i j v u g hij hv hu e.symm hgu

def str8 (L : List UInt8) : Value := .string ⟨L.toArray⟩
def wasTo (Ls : List (List UInt8)) (k : Nat) : List Value := (Ls.take k).map str8 ++ List.replicate (Ls.length - k) (.string ByteArray.empty)
theorem wasTo_zero (Ls : List (List UInt8)) : wasTo Ls 0 = List.replicate Ls.length (.string ByteArray.empty) := by simp [wasTo]
theorem wasTo_all (Ls : List (List UInt8)) : wasTo Ls Ls.length = Ls.map str8 := by simp [wasTo]
theorem wasTo_length (Ls : List (List UInt8)) (k : Nat) (h : k ≤ Ls.length) : (wasTo Ls k).length = Ls.length := by simp [wasTo]; omega
theorem wasTo_succ (Ls : List (List UInt8)) (k : Nat) (h : k < Ls.length) : (wasTo Ls k).set k (str8 Ls[k]) = wasTo Ls (k + 1) := by
  have hl : ((Ls.take k).map str8).length = k := by simp; omega
  unfold wasTo
  rw [List.set_append, if_neg (by omega), hl, Nat.sub_self]
  have e : Ls.length - k = (Ls.length - (k + 1)) + 1 := by omega
  rw [e, List.replicate_succ, List.set_cons_zero, List.take_succ_eq_append_getElem h]
  simp only [List.map_append, List.map_cons, List.map_nil, List.append_assoc, List.cons_append, List.nil_append]

theorem st24 : ST Try.prog 24 5 1 := bt.st
theorem info9 : (Try.prog.info? 9).map (fun i => (i.zero, i.size, i.bytes)) = some (some (.string ByteArray.empty), 1, 16) := by kernel_rfl

set_option maxHeartbeats 2000000 in
set_option maxRecDepth 100000 in
theorem apart_bytes (G C : Nat) (vs : List Value) (Ls : List (List UInt8)) (w : World) (hr : Rd w (some ⟨G, 0, none⟩) vs) (hl : vs.length = Ls.length) (hf : AllFull w vs Ls) (hs : Sep G vs)
    (hn : Ls.length ≤ 1099511627776) :
   Calls Try.prog 34 #[.slice (some ⟨G, 0, none⟩) Ls.length C] w fun e w' => e = .returned (.bool true) ∧ Below w.heap.size w w' := by
  have HL := Lib.hid hl; clear hl
  go_enter Try.func34, Try.ntmps34
  go_wp2_with fail
  go_loopw [3] (fun i wr => ∃ k : Nat, k ≤ Ls.length ∧ i = .int .i64 (k : Int) ∧ Fr (OwnSet vs) w wr ∧ AllFull wr vs Ls) (fun i _ => Ls.length - (intOf i).toNat)
  case atStart => exact ⟨0, by omega, by go_num, Fr.refl _ _, hf⟩
  case round =>
    obtain ⟨i, hi, rfl, hF, hA⟩ := hrel
    obtain ⟨wo, rfl⟩ : ∃ wo : World, wo = wr := ⟨_, rfl⟩
    by_cases hlt : i < Ls.length
    · go_wp2_with (first
        | ((with_reducible refine at_dst 15 ?_); refine wpList_make_one Try.underlying164 info9 rfl rfl (.tmp 14) (.tmp 14) rfl .i64 .i64 Ls.length Ls.length rfl rfl (Nat.le_refl _) (by omega) (by unfold maxLen; omega) ?_; intro w1 hb1 hw1 hs1))
      have hro : Rd wo (some ⟨G, 0, none⟩) vs := hr.fr hF (fun ad e => by cases e; exact hs.2)
      go_loopw [5] (fun kk wq => ∃ k : Nat, k ≤ Ls.length ∧ kk = .int .i64 (k : Int) ∧ Blk wq wo.heap.size 9 (wasTo Ls k) ∧ Below wo.heap.size wo wq) (fun kk _ => Ls.length - (intOf kk).toNat)
      case atStart => exact ⟨0, by omega, by go_num, by rw [wasTo_zero]; exact hb1, hw1⟩
      case round =>
        obtain ⟨k, hk, rfl, hbq, hwq⟩ := hrel
        obtain ⟨wq, rfl⟩ : ∃ wq : World, wq = wr := ⟨_, rfl⟩
        by_cases hkt : k < Ls.length
        · obtain ⟨v, hv⟩ : ∃ v, vs[k]? = some v := ⟨_, List.getElem?_eq_getElem (by have := HL.out; omega)⟩
          have hfk := (hA.below HL.out hwq) k v Ls[k] hv (List.getElem?_eq_getElem hkt)
          obtain ⟨A, m, rfl, hml, hrd⟩ := hfk.rd
          have hc : wq.cell? ⟨G, k, none⟩ = some (.slice A m Ls[k].length) := by
            obtain ⟨ad, e, hcc⟩ := (hro.below hwq) (by have := (List.getElem?_eq_some_iff.1 hv).1; omega)
            cases e
            have := hcc k _ hv
            simpa [Addr.add_lit] using this
          have hcs : ∃ u, wq.cell? ⟨wo.heap.size, k, none⟩ = some u := by
            rw [hbq.cell]
            exact ⟨_, List.getElem?_eq_getElem (by rw [wasTo_length _ _ hk]; omega)⟩
          obtain ⟨u, hcs⟩ := hcs
          have hfz := hbq.free k
          generalize hLk : Ls[k] = L at *
          have HLk := Lib.hid hLk
          clear hLk
          go_wp2_with fail
          refine rg_begin (fun W => W = wq.drew) [14] [14] [0, 1, 2, 3, 4, 5, 6, 7, 8, 9, 10, 11, 12, 13, 14] 0 mixed (by kernel_rfl) (fun _ _ _ _ e hh => ⟨e.symm.trans hh.1, hh.2⟩) ?_
          simp only [pick, List.map_cons, List.map_nil, List.getD_cons_zero, List.getD_cons_succ]
          have hS : (fun W => W = wq.drew) _ := rfl
          refine rg_take (v := ?v1_0) rfl rfl hS ?y1_0 ?_
          case y1_0 => intro W hW; (try subst hW); go_simp; try with_reducible rfl
          simp only [Act.put, List.setIfInBounds_toArray, List.set_cons_zero, List.set_cons_succ]
          refine rg_take (v := ?v1_1) rfl rfl hS ?y1_1 ?_
          case y1_1 => intro W hW; (try subst hW); go_simp; try with_reducible rfl
          simp only [Act.put, List.setIfInBounds_toArray, List.set_cons_zero, List.set_cons_succ]
          refine rg_take (v := ?v1_2) rfl rfl hS ?y1_2 ?_
          case y1_2 => intro W hW; (try subst hW); go_simp; try with_reducible rfl
          simp only [Act.put, List.setIfInBounds_toArray, List.set_cons_zero, List.set_cons_succ]
          refine rg_take (v := ?v1_3) rfl rfl hS ?y1_3 ?_
          case y1_3 => intro W hW; (try subst hW); go_simp; try with_reducible rfl
          simp only [Act.put, List.setIfInBounds_toArray, List.set_cons_zero, List.set_cons_succ]
          refine rg_take (v := ?v1_4) rfl rfl hS ?y1_4 ?_
          case y1_4 => intro W hW; (try subst hW); go_simp; try with_reducible rfl
          simp only [Act.put, List.setIfInBounds_toArray, List.set_cons_zero, List.set_cons_succ]
          refine rg_take (v := ?v1_5) rfl rfl hS ?y1_5 ?_
          case y1_5 => intro W hW; (try subst hW); go_simp; try with_reducible rfl
          simp only [Act.put, List.setIfInBounds_toArray, List.set_cons_zero, List.set_cons_succ]
          refine rg_take (v := ?v1_6) rfl rfl hS ?y1_6 ?_
          case y1_6 => intro W hW; (try subst hW); go_simp; try with_reducible rfl
          simp only [Act.put, List.setIfInBounds_toArray, List.set_cons_zero, List.set_cons_succ]
          refine rg_take (v := ?v1_7) rfl rfl hS ?y1_7 ?_
          case y1_7 => intro W hW; (try subst hW); go_simp; try with_reducible rfl
          simp only [Act.put, List.setIfInBounds_toArray, List.set_cons_zero, List.set_cons_succ]
          refine rg_take (v := ?v1_8) rfl rfl hS ?y1_8 ?_
          case y1_8 => intro W hW; (try subst hW); go_simp; try with_reducible rfl
          simp only [Act.put, List.setIfInBounds_toArray, List.set_cons_zero, List.set_cons_succ]
          refine rg_take (v := ?v1_9) rfl rfl hS ?y1_9 ?_
          case y1_9 => intro W hW; (try subst hW); go_simp; try with_reducible rfl
          simp only [Act.put, List.setIfInBounds_toArray, List.set_cons_zero, List.set_cons_succ]
          refine rg_take (v := ?v1_10) rfl rfl hS ?y1_10 ?_
          case y1_10 => intro W hW; (try subst hW); go_simp; try with_reducible rfl
          simp only [Act.put, List.setIfInBounds_toArray, List.set_cons_zero, List.set_cons_succ]
          refine rg_take rfl rfl hS (fun W hW => exec_slice_to st24 (.tmp 27) (.tmp 32) rfl A m L.length L.length .i64 rfl rfl (Nat.le_refl _)) ?_
          simp only [Act.put, List.setIfInBounds_toArray, List.set_cons_zero, List.set_cons_succ]
          refine rg_take rfl rfl hS (fun W hW => exec_bytes_string bt (.tmp 33) rfl A L.length L.length rfl L (by rw [hW]; exact hrd) rfl) ?_
          simp only [Act.put, List.setIfInBounds_toArray, List.set_cons_zero, List.set_cons_succ]
          refine rg_take (v := ?v1_13) rfl rfl hS ?y1_13 ?_
          case y1_13 => intro W hW; (try subst hW); go_simp; try with_reducible rfl
          simp only [Act.put, List.setIfInBounds_toArray, List.set_cons_zero, List.set_cons_succ]
          refine rg_one rfl rfl ?_; intro K hK; go_simp
          refine hK _ _ (fun h => by cases h) ?_; clear hK
          refine rg_done (by kernel_rfl) ?_
          go_wp2_with fail
          go_roundw
          case rel =>
            have h1 := hbq.set_ k (str8 L)
            rw [← HLk.out, wasTo_succ Ls k hkt, HLk.out] at h1
            exact ⟨k + 1, by omega, by go_num, h1, (hwq.setCell (Nat.le_refl _) _).drew⟩
          case measure => simp [intOf]; omega
        · obtain rfl : k = Ls.length := by omega
          rw [wasTo_all] at hbq
          obtain ⟨v, hv⟩ : ∃ v, vs[i]? = some v := ⟨_, List.getElem?_eq_getElem (by have := HL.out; omega)⟩
          have hfi := (hA.below HL.out hwq) i v Ls[i] hv (List.getElem?_eq_getElem hlt)
          have hc : wq.cell? ⟨G, i, none⟩ = some v := by
            obtain ⟨ad, e, hcc⟩ := (hro.below hwq) (by have := (List.getElem?_eq_some_iff.1 hv).1; omega)
            cases e
            have := hcc i _ hv
            simpa [Addr.add_lit] using this
          have hlto : ∀ g, v.ownBlock = some g → g < wo.heap.size := fun g hg => (hA i v Ls[i] hv (List.getElem?_eq_getElem hlt)).lt hg
          go_wp2_with fail
          refine (over_full v Ls[i] wq hfi).mono ?_
          rintro e w3 ⟨rfl, hf3, hg3, hz3⟩
          have hA3 : AllFull w3 vs (Ls.set i (flip8 Ls[i])) := (hA.below HL.out hwq).set_ HL.out hs hv hf3 hg3
          have hb3 : Blk w3 wo.heap.size 9 (Ls.map str8) := hbq.grown hg3 (fun e => by have := hlto _ e.symm; omega)
          have hF3 : Fr (OwnSet vs) wq w3 := (Fr.refl _ _).grown hg3 (fun g hg => .inl ⟨i, v, hv, hg⟩)
          have hr3 : Rd w3 (some ⟨G, 0, none⟩) vs := (hro.below hwq).fr hF3 (fun ad e => by cases e; exact hs.2)
          have hFw : Fr (OwnSet vs) w w3 := (hF.trans (Fr.of_below hwq)).trans hF3
          clear hf3 hg3 hz3 hbq hfi hc hF3
          go_wp2_with fail
          go_loopw [6] (fun kk wx => ∃ k : Nat, k ≤ Ls.length ∧ kk = .int .i64 (k : Int) ∧ Below w3.heap.size w3 wx) (fun kk _ => Ls.length - (intOf kk).toNat)
          case atStart => exact ⟨0, by omega, by go_num, Below.refl _ _⟩
          case round =>
            obtain ⟨k, hk, rfl, hwx⟩ := hrel
            obtain ⟨wx, rfl⟩ : ∃ wx : World, wx = wr := ⟨_, rfl⟩
            by_cases hkt : k < Ls.length
            · obtain ⟨u, hu⟩ : ∃ u, vs[k]? = some u := ⟨_, List.getElem?_eq_getElem (by have := HL.out; omega)⟩
              have hcu : wx.cell? ⟨G, k, none⟩ = some u := by
                obtain ⟨ad, e, hcc⟩ := (hr3.below hwx) (by have := (List.getElem?_eq_some_iff.1 hu).1; omega)
                cases e
                have := hcc k _ hu
                simpa [Addr.add_lit] using this
              by_cases hki : k = i
              · have hne : ((k : Int) != (i : Int)) = false := by simp [hki]
                have hne' : (k != i) = false := by simp [hki]
                clear hki
                go_wp2_with fail
                refine rg_begin (fun W => W = wx.drew) [] [] [0, 1, 2, 3, 4, 5, 6, 7, 8, 9, 10, 11, 12, 13, 14, 15, 16, 17, 18, 19, 20] 0 mixed (by kernel_rfl) (fun _ _ _ _ e hh => ⟨e.symm.trans hh.1, hh.2⟩) ?_
                simp only [pick, List.map_cons, List.map_nil, List.getD_cons_zero, List.getD_cons_succ]
                have hS : (fun W => W = wx.drew) _ := rfl
                refine rg_take (v := ?v2_0) rfl rfl hS ?y2_0 ?_
                case y2_0 => intro W hW; (try subst hW); go_simp; try with_reducible rfl
                simp only [Act.put, List.setIfInBounds_toArray, List.set_cons_zero, List.set_cons_succ]
                refine rg_take (v := ?v2_1) rfl rfl hS ?y2_1 ?_
                case y2_1 => intro W hW; (try subst hW); go_simp; try with_reducible rfl
                simp only [Act.put, List.setIfInBounds_toArray, List.set_cons_zero, List.set_cons_succ]
                refine rg_take (v := ?v2_2) rfl rfl hS ?y2_2 ?_
                case y2_2 => intro W hW; (try subst hW); go_simp; try with_reducible rfl
                simp only [Act.put, List.setIfInBounds_toArray, List.set_cons_zero, List.set_cons_succ]
                refine rg_take (v := ?v2_3) rfl rfl hS ?y2_3 ?_
                case y2_3 => intro W hW; (try subst hW); go_simp; try with_reducible rfl
                simp only [Act.put, List.setIfInBounds_toArray, List.set_cons_zero, List.set_cons_succ]
                refine rg_skip rfl rfl hS ?_
                simp only [Act.put, List.setIfInBounds_toArray, List.set_cons_zero, List.set_cons_succ]
                refine rg_skip rfl rfl hS ?_
                simp only [Act.put, List.setIfInBounds_toArray, List.set_cons_zero, List.set_cons_succ]
                refine rg_skip rfl rfl hS ?_
                simp only [Act.put, List.setIfInBounds_toArray, List.set_cons_zero, List.set_cons_succ]
                refine rg_skip rfl rfl hS ?_
                simp only [Act.put, List.setIfInBounds_toArray, List.set_cons_zero, List.set_cons_succ]
                refine rg_skip rfl rfl hS ?_
                simp only [Act.put, List.setIfInBounds_toArray, List.set_cons_zero, List.set_cons_succ]
                refine rg_skip rfl rfl hS ?_
                simp only [Act.put, List.setIfInBounds_toArray, List.set_cons_zero, List.set_cons_succ]
                refine rg_skip rfl rfl hS ?_
                simp only [Act.put, List.setIfInBounds_toArray, List.set_cons_zero, List.set_cons_succ]
                refine rg_skip rfl rfl hS ?_
                simp only [Act.put, List.setIfInBounds_toArray, List.set_cons_zero, List.set_cons_succ]
                refine rg_skip rfl rfl hS ?_
                simp only [Act.put, List.setIfInBounds_toArray, List.set_cons_zero, List.set_cons_succ]
                refine rg_skip rfl rfl hS ?_
                simp only [Act.put, List.setIfInBounds_toArray, List.set_cons_zero, List.set_cons_succ]
                refine rg_skip rfl rfl hS ?_
                simp only [Act.put, List.setIfInBounds_toArray, List.set_cons_zero, List.set_cons_succ]
                refine rg_skip rfl rfl hS ?_
                simp only [Act.put, List.setIfInBounds_toArray, List.set_cons_zero, List.set_cons_succ]
                refine rg_skip rfl rfl hS ?_
                simp only [Act.put, List.setIfInBounds_toArray, List.set_cons_zero, List.set_cons_succ]
                refine rg_skip rfl rfl hS ?_
                simp only [Act.put, List.setIfInBounds_toArray, List.set_cons_zero, List.set_cons_succ]
                refine rg_skip rfl rfl hS ?_
                simp only [Act.put, List.setIfInBounds_toArray, List.set_cons_zero, List.set_cons_succ]
                refine rg_skip rfl rfl hS ?_
                simp only [Act.put, List.setIfInBounds_toArray, List.set_cons_zero, List.set_cons_succ]
                refine rg_take (v := ?v2_20) rfl rfl hS ?y2_20 ?_
                case y2_20 => intro W hW; (try subst hW); go_simp; try with_reducible rfl
                simp only [Act.put, List.setIfInBounds_toArray, List.set_cons_zero, List.set_cons_succ]
                refine rg_done (by kernel_rfl) ?_
                go_wp2_with fail
                go_roundw
                case rel => exact ⟨k + 1, by omega, by go_num, hwx.drew⟩
                case measure => simp [intOf]; omega
              · have hne : ((k : Int) != (i : Int)) = true := by simp; omega
                have hne' : (k != i) = true := by simp [hki]
                have hfu := (hA3.below (by simpa using HL.out) hwx) k u Ls[k] hu (by rw [List.getElem?_set_ne (Ne.symm hki)]; exact List.getElem?_eq_getElem hkt)
                obtain ⟨A, m, rfl, hml, hrd⟩ := hfu.rd
                have hcw : wx.cell? ⟨wo.heap.size, k, none⟩ = some (.string ⟨Ls[k].toArray⟩) := by
                  rw [(Blk.below hb3 hwx hb3.lt).cell]
                  simp [List.getElem?_map, List.getElem?_eq_getElem hkt, str8]
                generalize hLk : Ls[k] = L at *
                clear hLk hki
                go_wp2_with fail
                refine rg_begin (fun W => W = wx.drew) [] [] [0, 1, 2, 3, 4, 5, 6, 7, 8, 9, 10, 11, 12, 13, 14, 15, 16, 17, 18, 19, 20] 0 mixed (by kernel_rfl) (fun _ _ _ _ e hh => ⟨e.symm.trans hh.1, hh.2⟩) ?_
                simp only [pick, List.map_cons, List.map_nil, List.getD_cons_zero, List.getD_cons_succ]
                have hS : (fun W => W = wx.drew) _ := rfl
                refine rg_take (v := ?v3_0) rfl rfl hS ?y3_0 ?_
                case y3_0 => intro W hW; (try subst hW); go_simp; try with_reducible rfl
                simp only [Act.put, List.setIfInBounds_toArray, List.set_cons_zero, List.set_cons_succ]
                refine rg_take (v := ?v3_1) rfl rfl hS ?y3_1 ?_
                case y3_1 => intro W hW; (try subst hW); go_simp; try with_reducible rfl
                simp only [Act.put, List.setIfInBounds_toArray, List.set_cons_zero, List.set_cons_succ]
                refine rg_take (v := ?v3_2) rfl rfl hS ?y3_2 ?_
                case y3_2 => intro W hW; (try subst hW); go_simp; try with_reducible rfl
                simp only [Act.put, List.setIfInBounds_toArray, List.set_cons_zero, List.set_cons_succ]
                refine rg_take (v := ?v3_3) rfl rfl hS ?y3_3 ?_
                case y3_3 => intro W hW; (try subst hW); go_simp; try with_reducible rfl
                simp only [Act.put, List.setIfInBounds_toArray, List.set_cons_zero, List.set_cons_succ]
                refine rg_take (v := ?v3_4) rfl rfl hS ?y3_4 ?_
                case y3_4 => intro W hW; (try subst hW); go_simp; try with_reducible rfl
                simp only [Act.put, List.setIfInBounds_toArray, List.set_cons_zero, List.set_cons_succ]
                refine rg_take (v := ?v3_5) rfl rfl hS ?y3_5 ?_
                case y3_5 => intro W hW; (try subst hW); go_simp; try with_reducible rfl
                simp only [Act.put, List.setIfInBounds_toArray, List.set_cons_zero, List.set_cons_succ]
                refine rg_take (v := ?v3_6) rfl rfl hS ?y3_6 ?_
                case y3_6 => intro W hW; (try subst hW); go_simp; try with_reducible rfl
                simp only [Act.put, List.setIfInBounds_toArray, List.set_cons_zero, List.set_cons_succ]
                refine rg_take (v := ?v3_7) rfl rfl hS ?y3_7 ?_
                case y3_7 => intro W hW; (try subst hW); go_simp; try with_reducible rfl
                simp only [Act.put, List.setIfInBounds_toArray, List.set_cons_zero, List.set_cons_succ]
                refine rg_take (v := ?v3_8) rfl rfl hS ?y3_8 ?_
                case y3_8 => intro W hW; (try subst hW); go_simp; try with_reducible rfl
                simp only [Act.put, List.setIfInBounds_toArray, List.set_cons_zero, List.set_cons_succ]
                refine rg_take (v := ?v3_9) rfl rfl hS ?y3_9 ?_
                case y3_9 => intro W hW; (try subst hW); go_simp; try with_reducible rfl
                simp only [Act.put, List.setIfInBounds_toArray, List.set_cons_zero, List.set_cons_succ]
                refine rg_take (v := ?v3_10) rfl rfl hS ?y3_10 ?_
                case y3_10 => intro W hW; (try subst hW); go_simp; try with_reducible rfl
                simp only [Act.put, List.setIfInBounds_toArray, List.set_cons_zero, List.set_cons_succ]
                refine rg_take (v := ?v3_11) rfl rfl hS ?y3_11 ?_
                case y3_11 => intro W hW; (try subst hW); go_simp; try with_reducible rfl
                simp only [Act.put, List.setIfInBounds_toArray, List.set_cons_zero, List.set_cons_succ]
                refine rg_take (v := ?v3_12) rfl rfl hS ?y3_12 ?_
                case y3_12 => intro W hW; (try subst hW); go_simp; try with_reducible rfl
                simp only [Act.put, List.setIfInBounds_toArray, List.set_cons_zero, List.set_cons_succ]
                refine rg_take rfl rfl hS (fun W hW => exec_slice_to st24 (.tmp 54) (.tmp 59) rfl A m L.length L.length .i64 rfl rfl (Nat.le_refl _)) ?_
                simp only [Act.put, List.setIfInBounds_toArray, List.set_cons_zero, List.set_cons_succ]
                refine rg_take rfl rfl hS (fun W hW => exec_bytes_string bt (.tmp 60) rfl A L.length L.length rfl L (by rw [hW]; exact hrd) rfl) ?_
                simp only [Act.put, List.setIfInBounds_toArray, List.set_cons_zero, List.set_cons_succ]
                refine rg_take (v := ?v3_15) rfl rfl hS ?y3_15 ?_
                case y3_15 => intro W hW; (try subst hW); go_simp; try with_reducible rfl
                simp only [Act.put, List.setIfInBounds_toArray, List.set_cons_zero, List.set_cons_succ]
                refine rg_take (v := ?v3_16) rfl rfl hS ?y3_16 ?_
                case y3_16 => intro W hW; (try subst hW); go_simp; try with_reducible rfl
                simp only [Act.put, List.setIfInBounds_toArray, List.set_cons_zero, List.set_cons_succ]
                refine rg_take (v := ?v3_17) rfl rfl hS ?y3_17 ?_
                case y3_17 => intro W hW; (try subst hW); go_simp; try with_reducible rfl
                simp only [Act.put, List.setIfInBounds_toArray, List.set_cons_zero, List.set_cons_succ]
                refine rg_take (v := ?v3_18) rfl rfl hS ?y3_18 ?_
                case y3_18 => intro W hW; (try subst hW); go_simp; try with_reducible rfl
                simp only [Act.put, List.setIfInBounds_toArray, List.set_cons_zero, List.set_cons_succ]
                refine rg_take (v := ?v3_19) rfl rfl hS ?y3_19 ?_
                case y3_19 => intro W hW; (try subst hW); go_simp; try with_reducible rfl
                simp only [Act.put, List.setIfInBounds_toArray, List.set_cons_zero, List.set_cons_succ]
                refine rg_take (v := ?v3_20) rfl rfl hS ?y3_20 ?_
                case y3_20 => intro W hW; (try subst hW); go_simp; try with_reducible rfl
                simp only [Act.put, List.setIfInBounds_toArray, List.set_cons_zero, List.set_cons_succ]
                refine rg_done (by kernel_rfl) ?_
                go_wp2_with fail
                go_roundw
                case rel => exact ⟨k + 1, by omega, by go_num, hwx.drew⟩
                case measure => simp [intOf]; omega
            · obtain rfl : k = Ls.length := by omega
              have hfi := (hA3.below (by simpa using HL.out) hwx) i v (flip8 Ls[i]) hv (by rw [List.getElem?_set_self hlt])
              have hcu : wx.cell? ⟨G, i, none⟩ = some v := by
                obtain ⟨ad, e, hcc⟩ := (hr3.below hwx) (by have := (List.getElem?_eq_some_iff.1 hv).1; omega)
                cases e
                have := hcc i _ hv
                simpa [Addr.add_lit] using this
              go_wp2_with fail
              refine (over_full v (flip8 Ls[i]) wx hfi).mono ?_
              rintro e w5 ⟨rfl, hf5, hg5, hz5⟩
              rw [flip8_flip8] at hf5
              have hA5 := (hA3.below (by simpa using HL.out) hwx).set_ (by simpa using HL.out) hs hv hf5 hg5
              rw [List.set_set, List.set_getElem_self] at hA5
              have hF5 : Fr (OwnSet vs) w w5 := (hFw.trans (Fr.of_below hwx)).grown hg5 (fun g hg => .inl ⟨i, v, hv, hg⟩)
              clear hf5 hg5 hz5 hfi hcu
              go_wp2_with fail
              go_roundw
              case rel => exact ⟨i + 1, by omega, by go_num, hF5, hA5⟩
              case measure => simp [intOf]; omega
    · go_wp2_with fail
      go_ret
      refine ⟨rfl, hF.to_below fun g hg hS => ?_⟩
      obtain ⟨j, v, hv, hb⟩ := hS
      have hj : j < Ls.length := by rw [← HL.out]; exact (List.getElem?_eq_some_iff.1 hv).1
      exact (hf j v _ hv (List.getElem?_eq_getElem hj)).cells (hA j v _ hv (List.getElem?_eq_getElem hj)) hb
theorem apart_bytes' (G N C : Nat) (vs : List Value) (Ls : List (List UInt8)) (w : World) (hN : Ls.length = N) (hr : Rd w (some ⟨G, 0, none⟩) vs) (hl : vs.length = Ls.length) (hf : AllFull w vs Ls) (hs : Sep G vs)
    (hn : Ls.length ≤ 1099511627776) :
   Calls Try.prog 34 #[.slice (some ⟨G, 0, none⟩) N C] w fun e w' => e = .returned (.bool true) ∧ Below w.heap.size w w' := by
  subst hN; exact apart_bytes G C vs Ls w hr hl hf hs hn

theorem AllFull.nil (w : World) : AllFull w [] [] := fun i v L h => by simp at h
theorem AllFull.cons {w : World} {v : Value} {L : List UInt8} {vs : List Value} {Ls : List (List UInt8)} (h : Full w v L) (hs : AllFull w vs Ls) : AllFull w (v :: vs) (L :: Ls) := fun i u M hu hM => by
  cases i with
  | zero => simp at hu hM; subst hu; subst hM; exact h
  | succ i => exact hs i u M (by simpa using hu) (by simpa using hM)
theorem AllFull.append {w : World} {vs us : List Value} {Ls Ms : List (List UInt8)} (hl : vs.length = Ls.length) (h : AllFull w vs Ls) (hs : AllFull w us Ms) : AllFull w (vs ++ us) (Ls ++ Ms) := by
  induction vs generalizing Ls with
  | nil =>
    have : Ls = [] := List.eq_nil_of_length_eq_zero (by simpa using hl.symm)
    subst this
    simpa using hs
  | cons v vs ih =>
    cases Ls with
    | nil => simp at hl
    | cons L Ls => exact AllFull.cons (h 0 v L rfl rfl) (ih (by simpa using hl) fun i u M hu hM => h (i + 1) u M (by simpa using hu) (by simpa using hM))

/-- The values' own blocks lie from lo on below hi, no two in one. -/
def Within (lo hi : Nat) (vs : List Value) : Prop :=
  lo ≤ hi ∧ (∀ v ∈ vs, ∀ g, v.ownBlock = some g → lo ≤ g ∧ g < hi) ∧ vs.Pairwise (fun v v' => ∀ g, v.ownBlock = some g → v'.ownBlock ≠ some g)
theorem Within.nil {lo hi : Nat} (h : lo ≤ hi) : Within lo hi [] := ⟨h, by simp, List.Pairwise.nil⟩
theorem Within.one {lo hi : Nat} {v : Value} (h : lo ≤ hi) (hv : ∀ g, v.ownBlock = some g → lo ≤ g ∧ g < hi) : Within lo hi [v] := ⟨h, by simpa using hv, by simp⟩
theorem Within.mono {lo hi lo' hi' : Nat} {vs : List Value} (h : Within lo hi vs) (h1 : lo' ≤ lo) (h2 : hi ≤ hi') : Within lo' hi' vs :=
  ⟨by have := h.1; omega, fun v hv g hg => by have := h.2.1 v hv g hg; omega, h.2.2⟩
theorem Within.up {lo mid hi : Nat} {vs us : List Value} (h : Within lo mid vs) (k : Within mid hi us) : Within lo hi (vs ++ us) :=
  ⟨by have := h.1; have := k.1; omega, fun v hv g hg => by
    rcases List.mem_append.1 hv with hv | hv
    · have := h.2.1 v hv g hg; have := k.1; omega
    · have := k.2.1 v hv g hg; have := h.1; omega, List.pairwise_append.2 ⟨h.2.2, k.2.2, fun v hv u hu g hg hg' => by
      have := h.2.1 v hv g hg; have := k.2.1 u hu g hg'; omega⟩⟩
theorem Within.down {lo mid hi : Nat} {vs us : List Value} (h : Within lo mid us) (k : Within mid hi vs) : Within lo hi (vs ++ us) :=
  ⟨by have := h.1; have := k.1; omega, fun v hv g hg => by
    rcases List.mem_append.1 hv with hv | hv
    · have := k.2.1 v hv g hg; have := h.1; omega
    · have := h.2.1 v hv g hg; have := k.1; omega, List.pairwise_append.2 ⟨k.2.2, h.2.2, fun v hv u hu g hg hg' => by
      have := k.2.1 v hv g hg; have := h.2.1 u hu g hg'; omega⟩⟩
theorem Within.sep {lo hi G : Nat} {vs : List Value} (h : Within lo hi vs) (hG : hi ≤ G) : Sep G vs := by
  constructor
  · intro i j v v' g hij hv hv' hg hg'
    have hp := List.pairwise_iff_getElem.1 h.2.2
    obtain ⟨hi, rfl⟩ := List.getElem?_eq_some_iff.1 hv
    obtain ⟨hj, rfl⟩ := List.getElem?_eq_some_iff.1 hv'
    rcases Nat.lt_or_gt_of_ne hij with hlt | hlt
    · exact hp i j hi hj hlt g hg hg'
    · exact hp j i hj hi hlt g hg' hg
  · rintro ⟨i, v, hv, hg⟩
    have := h.2.1 v (List.mem_of_getElem? hv) G hg
    omega
theorem OwnB.within {w : World} {base E : Nat} {v : Value} {l : List UInt8} (h : OwnB w base E v l) (hb : base ≤ w.heap.size) : Within base w.heap.size [v] := Within.one hb h.lt

end Go.Proofs.Ytehbahobkgoapaa
