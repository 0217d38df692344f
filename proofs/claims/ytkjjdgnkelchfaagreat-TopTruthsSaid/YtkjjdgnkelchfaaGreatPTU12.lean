import Derived.Test.YtkjjdgnkelchfaaGreatPTU11
set_option linter.unusedSimpArgs false
set_option linter.unusedVariables false
set_option maxRecDepth 100000
set_option maxHeartbeats 16000000
namespace Go.Proofs.YtkjjdgnkelchfaaGreat
open Go Go.RowKit
def finN (x : Nod) : Option (Bts × Bts) := if x.kind = 1 then some (x.key.l, x.val.l) else none
theorem xkn (x : Nod) (h : x.kind ≠ 2) : txtN x = endT (finN x) := by
  unfold txtN finN; rw [if_neg h]
  split <;> rfl
def pfOf (ds : List D32) (x : Nod) : Pf := ⟨ds.map D32.l, finN x⟩
theorem xgx (E : Bts) (ss : List Bts) (i : Nat) (h : ∀ s ∈ ss, s.length = 32) : (xdo E ss i).length ≤ 32 * ss.length := by
  unfold xdo
  have h1 : ∀ (l : List Bts), (∀ s ∈ l, s.length = 32) → l.flatten.length = 32 * l.length := by
    intro l hl
    induction l with
    | nil => rfl
    | cons x l ih => rw [List.flatten_cons, List.length_append, ih (fun s hs => hl s (by simp [hs])), hl x (by simp), List.length_cons]; omega
  rw [h1 _ (fun s hs => h s (List.mem_of_mem_take (List.mem_filter.1 hs).1))]; have h2 := List.length_filter_le (fun s => !decide (s = E)) (ss.take i); have h3 : (ss.take i).length ≤ ss.length := by rw [List.length_take]; omega
  omega
theorem be2_put2 (n : Nat) : be 2 n = put2 n := rfl
theorem getD_l (ds : List D32) (i : Nat) (h : i < ds.length) (E : Bts) : (ds.map D32.l).getD i E = ds[i].l := by simp [List.getD, h]
theorem Gw.sl1 {G L0 L1 : List (Nat × Nat × List Value)} {v : Sv} {l : List UInt8} {D : Nat → Prop} {w0 w : World} (h : Gw 5 1 G v l.length (bvs l)) (H : Loc w0 D (L0 ++ (G ++ L1)) w) : Sl1 w v.v l := by
  refine ⟨v.A, v.c, ?_, ?_, h.rd H⟩
  · unfold Sv.v; rw [h.len]
  · have := h.cap.1; rw [h.len] at this; exact this
section
variable {w w' : World}
theorem xpd (p : Prv) (w : World) : Calls Tryz.prog 100 #[.agg p.cells.toArray] w fun e w' => ∃ er : Int, e = .returned (.int .i64 er) ∧ Below w.heap.size w w' ∧ ((er = 0 ∧ p.sides.n ≤ 256 ∧ okN p.nod = true ∧ p.kind ≠ 2) ∨ ((er == 0) = false ∧ ¬ (p.sides.n ≤ 256 ∧ okN p.nod = true ∧ p.kind ≠ 2))) := by
  by_cases hl : p.sides.n ≤ 256
  · cases hn : okN p.nod with
    | false =>
      refine (xo2 p hl hn).mono ?_; rintro e w' ⟨rfl, hb⟩; exact ⟨_, rfl, hb, .inr ⟨rfl, fun h => by cases h.2.1⟩⟩
    | true =>
      by_cases hk : p.kind = 2
      · refine (xld p hl hn hk).mono ?_
        rintro e w' ⟨rfl, hb⟩; exact ⟨_, rfl, hb, .inr ⟨rfl, fun h => h.2.2 hk⟩⟩
      · refine (xkf p hl hn hk).mono ?_
        rintro e w' ⟨rfl, hb⟩; exact ⟨_, rfl, hb, .inl ⟨rfl, hl, rfl, hk⟩⟩
  · refine (xne p (by omega)).mono ?_
    rintro e w' ⟨rfl, hb⟩; exact ⟨_, rfl, hb, .inr ⟨rfl, fun h => hl h.1⟩⟩
theorem xlz (p : Prv) (hbad : ¬ (p.sides.n ≤ 256 ∧ okN p.nod = true ∧ p.kind ≠ 2)) : Calls Tryz.prog 47 #[.agg p.cells.toArray] w fun e w' => ∃ er : Int, e = .returned (.tuple #[.slice none 0 0, .int .i64 er]) ∧ (er == 0) = false ∧ Below w.heap.size w w' := by
  have HL := Loc.start w; obtain ⟨w0, rfl⟩ := eW w; go_enter Tryz.func47, Tryz.ntmps47; go_upto_region 0 with fail; refine X7s ?_; clear HL; intro g1 w HL; refine X1j ?_; go_upto_region 1 with fail; refine Xv ?_; refine Xa2 ?_; refine X57 ?_; intro K hK; refine xad cf100 rfl _ rfl ?_; refine X1z ?_; (with_reducible refine (xpd p _).mono ?_); rintro e w ⟨er, rfl, hb, her⟩; replace HL := HL.next hb
  have her : (er == 0) = false := by
    rcases her with h | h
    · exact absurd h.2 hbad
    · exact h.1
  clear hb; refine X2q ?_; clear hK K; go_upto_region 2 with fail; refine X14 ?_; refine Xa3 ?_; refine X22 ?_; go_upto_region 3 with fail; refine X3s ?_; go_wp2_with fail; go_ret2; exact ⟨er, rfl, her, HL.below⟩
theorem xpe (p : Prv) (ds : List D32) (hs : Sds w p.sides ds) (hl : p.sides.n ≤ 256) (hn : okN p.nod = true) (hk : p.kind ≠ 2) :
    Calls Tryz.prog 47 #[.agg p.cells.toArray] w fun e w' => ∃ v, e = .returned (.tuple #[v, .int .i64 0]) ∧ OwnB w' w.heap.size 5 v (encP tagE.l (pfOf ds p.nod)) ∧ Below w.heap.size w w' := by
  have HS := hZ hs; have hlen := hs.len; clear hs; obtain ⟨NB, hNB⟩ : ∃ NB, (p.sides.n + 7) / 8 = NB := ⟨_, rfl⟩; have hbl : ∀ i, (xbp tagE.l (ds.map D32.l) i).length = NB := fun i => by rw [xd0, List.length_map, hlen, hNB]
  have HL := Loc.start w; obtain ⟨w0, rfl⟩ := eW w; have CB := hZ (fun u => xiv u p.sides.n (by omega)); rw [hNB] at CB; go_enter Tryz.func47, Tryz.ntmps47; go_upto_region 0 with fail; refine X7s ?_; clear HL; intro g1 w HL; refine X1j ?_; go_upto_region 1 with fail; refine Xv ?_; refine Xa2 ?_; refine X57 ?_; intro K hK; refine xad cf100 rfl _ rfl ?_; refine X1z ?_; (with_reducible refine (xkf p hl hn hk).mono ?_); refine X6w ?_; clear hK K; intro w HL; go_upto_region 2 with fail; refine Xa4 ?_; go_upto_region 4 with fail; refine X8n ?_; refine X57 ?_; intro K hK; refine xad cf101 rfl _ rfl ?_; refine X1z ?_; (with_reducible refine (xj4 p.sides.n (by omega) _).mono ?_); rintro e w ⟨v5, rfl, ho, hb⟩; obtain ⟨G1, s1, rfl, hG1, HL1⟩ := HL.took hb ho; replace HL := HL1; clear HL1 ho hb; simp only [qm, qn] at HL; refine X6o ?_; clear hK K
  go_upto_region 5 with fail; refine X8n ?_; refine X57 ?_; intro K hK; refine xad cf98 rfl _ rfl ?_; refine X1z ?_; (with_reducible refine (CB.out _).mono ?_); rintro e w ⟨rfl, rfl⟩; refine Xa5 ?_; clear hK K; intro K hK; refine xo8 bt _ _ rfl HL .i64 .i64 NB NB rfl rfl (Nat.le_refl _) (by omega) ?_; clear HL; intro g30 w HL; refine Xa7 ?_; clear hK K; intro K hK; refine xt9 sl25 el5 rfl HL ?_; clear HL; intro g31 w HL; refine Xa6 ?_; clear hK K; refine X1i ?_; replace HL := HL.toEnd; simp only [qm, qo, qn] at HL; go_upto_region 6 with fail; refine X8h ?_; intro K hK; refine Xa8 ?_; refine X1z ?_; refine Xa9 ?_; refine X5x ?_; clear hK K; intro w HL; refine xah zr23 rfl rfl HL ?_; clear HL; intro g9 w HL; refine X60 ?_; clear HL; intro w HL; go_upto_region 7 with fail; refine X8k ?_; refine X95 ?_; refine X8m ?_; refine X1h ?_; go_wp2_with fail
  go_loopw [36, 8] (fun z s wr => ∃ i : Nat, i ≤ ds.length ∧ z = .int .i64 (i : Int) ∧ ∃ G sv, s = Sv.v sv ∧ Gw 5 1 G sv (xdo tagE.l (ds.map D32.l) i).length (bvs (xdo tagE.l (ds.map D32.l) i)) ∧
    Loc w0 (Old w0) ((g9, 23, tagE.c) :: (g30, 5, bvs (xbp tagE.l (ds.map D32.l) i)) :: (g1, 34, p.cells) :: (G1 ++ (G ++ []))) wr) (fun z _ _ => (ds.length - intOf z).toNat)
  case atStart =>
    refine ⟨0, Nat.zero_le _, rfl, [(g31, 5, [])], ⟨some ⟨g31, 0, none⟩, 0, 0⟩, rfl, Gw.zero 5 1 g31, ?_⟩; have e0 : xbp tagE.l (ds.map D32.l) 0 = List.replicate NB 0 := by rw [xbp, List.length_map, hlen, hNB]
    rw [e0]; exact HL
  case round =>
    clear HL; obtain ⟨i, hi, rfl, G, sv, rfl, hG, HL⟩ := hrel; obtain ⟨w, rfl⟩ := eW wr; by_cases hlt : i < ds.length
    · have k8 : decide ((i : Int) < (p.sides.n : Int)) = true := by simp; omega
      refine Xaa ?_; intro HI; obtain ⟨ad, hA, hE⟩ := HS.out.at_ i hlt; have HEL := hZ hE; have HSV : p.sides.v = .slice (some ad) p.sides.n p.sides.c := by unfold Sv.v; rw [hA]
      clear hE; have hts := xo6 tagE.l (ds.map D32.l) i (by simpa using hlt)
      have htlen : (xdo tagE.l (ds.map D32.l) i).length ≤ 8192 := by
        have h3 := xgx tagE.l (ds.map D32.l) i (fun s hs => by obtain ⟨d, _, rfl⟩ := List.mem_map.1 hs; exact d.h); simp only [List.length_map] at h3; omega
      have hbs : xbp tagE.l (ds.map D32.l) (i + 1) = if ds[i].l = tagE.l then xbp tagE.l (ds.map D32.l) i else xfk (xbp tagE.l (ds.map D32.l) i) i := by rw [xbp, getD_l ds i hlt]
      rw [getD_l ds i hlt, List.getElem_map] at hts; go_upto_region 8 with fail; refine Xv ?_; refine Xab ?_; refine X22 ?_; go_upto_region 9 with fail; refine X14 ?_; refine xaa rfl _ (xaz sl29 (.tmp 34) _ rfl ad p.sides.n p.sides.c i .i64 HSV rfl (by omega)) ?_; refine X5 ?_; refine xaa rfl _ (xay ag23 _ rfl _ ds[i].c rfl (HL.rdO HEL.out) (by omega) (D32.cl _)) ?_; refine X5 ?_; refine xah zr23 rfl rfl HL ?_; clear HL; intro g11 w HL; refine X5 ?_; refine Xz ?_; refine X5y ?_; refine X3j ?_; clear HL; intro w HL; by_cases he : ds[i].l = tagE.l
      · have k10 : (!(ds[i].l == tagE.l)) = false := by simp [he]
        rw [if_pos he] at hts hbs; go_upto_region 10 with fail; refine Xac ?_; refine Xae ?_; refine xaa rfl _ (xdn ab25 _ _ rfl ds[i] tagE rfl rfl false k10) ?_; refine X22 ?_; go_upto_region 13 with fail; refine Xaf ?_; go_wp2_with fail; go_roundw
        case rel => exact ⟨i + 1, by omega, rfl, G, sv, rfl, by rw [hts, List.append_nil]; exact hG, by rw [hbs]; exact HL.drop _ (sB _ _)⟩
        case measure => simp [intOf] <;> omega
      · have k10 : (!(ds[i].l == tagE.l)) = true := by simp [he]
        rw [if_neg he] at hts hbs; obtain ⟨q, hq⟩ : ∃ q, i / 8 = q := ⟨_, rfl⟩; obtain ⟨m, hm⟩ : ∃ m, i % 8 = m := ⟨_, rfl⟩; obtain ⟨sh, hsh⟩ : ∃ sh, 2 ^ (7 - m) = sh := ⟨_, rfl⟩; have hsh8 : sh < 256 := by rw [← hsh, ← hm]; exact xq2 i
        have hqn : q < NB := by omega
        have hx : (bvs (xbp tagE.l (ds.map D32.l) i))[q * 1]? = some (.int .u8 ((((xbp tagE.l (ds.map D32.l) i).getD q 0).toNat : Nat) : Int)) := by
          have h1 : q < (xbp tagE.l (ds.map D32.l) i).length := by rw [hbl]; exact hqn
          rw [Nat.mul_one, xcz]; simp [List.getD, h1, bv]
        have hset := xnj (xbp tagE.l (ds.map D32.l) i) i; have hxl : ((xbp tagE.l (ds.map D32.l) i).getD q 0).toNat < 256 := UInt8.toNat_lt _; have hbll : q * 1 < (bvs (xbp tagE.l (ds.map D32.l) i)).length := by rw [xae, hbl]; omega
        rw [hq, hm, hsh] at hset; have hset1 : (bvs (xbp tagE.l (ds.map D32.l) i)).set (q * 1) (.int .u8 ((((xbp tagE.l (ds.map D32.l) i).getD q 0).toNat ||| sh : Nat) : Int)) = bvs (xfk (xbp tagE.l (ds.map D32.l) i) i) := by rw [Nat.mul_one]; exact hset
        have HQ := hZ hq; have HM := hZ hm; have HSH := hZ hsh; have hm8 : m < 8 := by omega
        clear hq hm hsh hset; generalize ((xbp tagE.l (ds.map D32.l) i).getD q 0).toNat = x at *; go_upto_region 10 with fail; refine Xac ?_; refine Xae ?_; refine xaa rfl _ (xdn ab25 _ _ rfl ds[i] tagE rfl rfl true k10) ?_; refine X22 ?_; go_upto_region 11 with fail; refine rB (Loc.P HL) [10] [10] [0, 1, 2, 3, 4, 5, 6, 7, 8, 9, 10] 0 ?_; refine X3u ?_; intro HL; refine Xag ?_; refine Xah ?_; refine X5 ?_; refine xac rfl rfl HL (fun W hW => xag sc5 hW _ rfl _ _ rfl _ _ _ (.tail _ (.tail _ (.head _))) hx) ?_; refine X3d ?_; refine Xai ?_; refine X5 ?_; refine Xaj ?_; refine X5 ?_; refine xac rfl rfl HL (fun W hW => xpc _ _ rfl x sh rfl rfl hxl hsh8) ?_; refine Xah ?_; refine Xk ?_; intro K hK; refine xbh sc5 _ _ rfl HL 2 g30 _ 5 _ _ _ rfl rfl rfl rfl hbll hset1 ?_; refine X2t ?_; clear HL; intro w HL; rw [← hbs] at HL; refine Xak ?_; clear hK K
        go_upto_region 12 with fail; refine X1m ?_; refine X57 ?_; intro K hK; refine xam sl25 el5 _ _ rfl (_ :: _ :: _ :: _ :: G1) _ sv _ hG HL rfl ⟨_, 0, none⟩ 32 32 ds[i].c rfl (Rd.of_blk0 (es := []) (by simpa using HL.blk (.head _))) (D32.cl _) (D32.c1 _) (by omega) (by omega) (by omega) ?_; clear HL hG; intro sv' G' w hG HL; simp only [qm] at HL; refine Xal ?_; clear hK K; go_upto_region 13 with fail; refine Xaf ?_; go_wp2_with fail; go_roundw
        case rel =>
          refine ⟨i + 1, by omega, rfl, G', sv', rfl, ?_, HL.drop _ (sB _ _)⟩; rw [hts, List.length_append, xbz, ds[i].h]; exact hG
        case measure => simp [intOf] <;> omega
    · have e0 : i = ds.length := by omega
      subst e0; have k8 : decide ((ds.length : Int) < (p.sides.n : Int)) = false := by simp; omega
      go_upto_region 8 with fail; refine Xv ?_; refine Xab ?_; refine X22 ?_; go_upto_region 14 with fail; refine X8q ?_; refine xaa rfl _ (xau ag32 HL _ rfl _ _ rfl _ _ _ (.tail _ (.tail _ (.head _))) (Prv.g_nod _) (Nod.len _)) ?_; refine X57 ?_; intro K hK; refine xad cf102 rfl _ rfl ?_; refine X1z ?_; (with_reducible refine (xid p.nod hn).mono ?_); rintro e w ⟨v62, rfl, ho, hb⟩; obtain ⟨G3, s3, rfl, hG3, HL1⟩ := HL.took hb ho; replace HL := HL1; clear HL1 ho hb; simp only [qm, qo, qn] at HL; refine X6o ?_; clear hK K; have hS30 : ∀ u, Blk u g30 5 (bvs (xbp tagE.l (ds.map D32.l) ds.length)) → Sl1 u (.slice (some ⟨g30, 0, none⟩) NB NB) (xbp tagE.l (ds.map D32.l) ds.length) := fun u hu => ⟨_, NB, by rw [hbl], by rw [hbl]; omega, Rd.of_blk0 (es := []) (by simpa using hu)⟩
      have htot : [be 2 p.sides.n, xbp tagE.l (ds.map D32.l) ds.length, xdo tagE.l (ds.map D32.l) ds.length, txtN p.nod].flatten = encP tagE.l (pfOf ds p.nod) := by
        unfold encP pfOf; rw [← xkn p.nod hk, be2_put2]; simp [hlen]
      have htl : [be 2 p.sides.n, xbp tagE.l (ds.map D32.l) ds.length, xdo tagE.l (ds.map D32.l) ds.length, txtN p.nod].flatten.length ≤ 140737488355328 := by
        have h1 := xke p.nod; have h2 := hbl ds.length; have h3 := xgx tagE.l (ds.map D32.l) ds.length (fun s hs => by obtain ⟨d, _, rfl⟩ := List.mem_map.1 hs; exact d.h); simp only [List.flatten_cons, List.flatten_nil, qp, qs, xb1]; simp only [List.length_map] at h3; omega
      go_upto_region 15 with fail; refine X6f ?_; refine Xam ?_; intro K hK; refine xds sl50 el25 4 _ rfl HL [Sv.v s1, .slice (some ⟨g30, 0, none⟩) NB NB, Sv.v sv, Sv.v s3] (by simp [Sv.v, Value.oneCell']) rfl (by omega) (by omega) (by simp [Act.eval]) ?_; clear HL; intro g68 w HL; refine hK _ _ ?_; clear hK K; have hR := Rd.of_blk0 (es := []) (by simpa using HL.blk (.head _)); have hA := AllRd.cons (hG1.sl1 (L0 := [_, _, _, _]) HL) (AllRd.cons (hS30 _ (HL.blk (.tail _ (.tail _ (.head _))))) (AllRd.cons (hG.sl1 (L0 := _ :: _ :: _ :: _ :: G1) HL) (AllRd.cons (hG3.sl1 (L0 := _ :: _ :: _ :: _ :: (G1 ++ G)) (L1 := []) (by simpa only [List.cons_append, List.append_assoc] using HL)) (AllRd.nil _)))); have hsz := HL.fr.size; refine Xw ?_; refine X1x ?_; intro K hK; refine xad cf79 rfl _ rfl ?_; refine X1z ?_
      (with_reducible refine (xnz (some ⟨g68, 0, none⟩) 4 4 _ _ _ rfl hR hA (by simp) htl).mono ?_); rintro e w ⟨v69, rfl, ho, hb⟩; replace HL := HL.next hb; replace ho := ho.mono hsz; rw [htot] at ho; clear hb hR hA; refine X21 ?_; clear hK K; refine X1j ?_; go_wp2_with fail; go_ret2; exact ⟨_, rfl, ho, HL.below⟩
end
section
variable {P : Program} {T E : TypeId} {w0 w1 w w' : World} {D : Nat → Prop} {L L0 L1 : List (Nat × Nat × List Value)} {ops : Array Oper} {rest : List Oper} {o : Oper} {a : Act} {K : Act → World → Prop} {Q : Exit → Act → World → Prop}
theorem Loc.out {x : Nat × Nat × List Value} (H : Loc w0 D (L0 ++ (x :: L1)) w) : Loc w0 D (L0 ++ L1) w ∧ Blk w x.1 x.2.1 x.2.2 ∧ ¬ D x.1 ∧ ∀ y ∈ L0 ++ L1, y.1 ≠ x.1 := by
  have hsub : (L0 ++ L1).Sublist (L0 ++ (x :: L1)) := List.Sublist.append (List.Sublist.refl _) (sB _ _); have h1 := H.own x (by simp); refine ⟨H.drop _ hsub, h1.2, h1.1, fun y hy e => ?_⟩; obtain ⟨p1, p2, p3⟩ := List.pairwise_append.1 H.nd; rcases List.mem_append.1 hy with hy | hy
  · exact p3 y hy x (by simp) e
  · exact (List.pairwise_cons.1 p2).1 y hy e.symm
theorem Loc.aside (H : Loc w0 D L w) {g : Nat} (hg : w.grownBy w' (some g)) (hD : ¬ D g) (hn : ∀ y ∈ L, y.1 ≠ g) : Loc w0 D L w' :=
  H.frame (T := (· = g)) ((Fr.refl (· = g) w).grown hg (fun k hk => .inl (by cases hk; rfl))) (fun k hk => hk ▸ hD) (fun x hx => hn x hx)
theorem Loc.putF (H : Loc w0 D L w) {i g t : Nat} {cs cs' : List Value} (hL : L[i]? = some (g, t, cs)) (hb : Blk w' g t cs') (hf : Fr (· = g) w w') : Loc w0 D (L.set i (g, t, cs')) w' := by
  have hi : i < L.length := (List.getElem?_eq_some_iff.1 hL).1; have hm : (g, t, cs) ∈ L := List.mem_of_getElem? hL; have hgD := (H.own _ hm).1; have e : L.set i (g, t, cs') = L.take i ++ (g, t, cs') :: L.drop (i + 1) := List.set_eq_take_append_cons_drop ▸ by rw [if_pos hi]
  have e0 : L = L.take i ++ (g, t, cs) :: L.drop (i + 1) := by
    have h3 : L[i] = (g, t, cs) := by rw [List.getElem?_eq_getElem hi] at hL; simpa using hL
    rw [← h3, List.getElem_cons_drop, List.take_append_drop]
  have H0 := H; rw [e0] at H0; obtain ⟨h1, _, _, h4⟩ := H0.out; have h5 := h1.frame (T := (· = g)) hf (fun k hk => hk ▸ hgD) (fun x hx => h4 x hx); rw [e]; refine ⟨h5.fr, ?_, ?_, H.old⟩
  · intro x hx
    rcases List.mem_append.1 hx with hx | hx
    · exact h5.own x (List.mem_append.2 (.inl hx))
    · rcases List.mem_cons.1 hx with rfl | hx
      · exact ⟨hgD, hb⟩
      · exact h5.own x (List.mem_append.2 (.inr hx))
  · have := xqz (g := g) (t := t) (cs := cs') h5.nd h4
    simpa using this
theorem Loc.back (H1 : Loc w0 (Old w0) L0 w1) (H2 : Loc w1 (Rest w1 L0) L w) : Below w0.heap.size w0 w := by
  have hr : ∀ k, k < w0.heap.size → Rest w1 L0 k := fun k hk => ⟨Nat.lt_of_lt_of_le hk H1.fr.size, fun x hx e => (H1.own x hx).1 (by rw [e]; exact hk)⟩
  refine Fr.to_below (S := fun k => ¬ Rest w1 L0 k) ⟨H2.fr.os.trans H1.fr.os, H2.fr.tape.trans H1.fr.tape, H2.fr.output.trans H1.fr.output, Nat.le_trans H1.fr.size H2.fr.size, fun k hk hn => ?_⟩ (fun k hk hn => absurd (hr k hk) hn); exact (H2.fr.block k (Nat.lt_of_lt_of_le hk H1.fr.size) hn).trans (H1.fr.block k hk (fun n => n hk))
def RdL (w1 : World) (D : Nat → Prop) (cs : List Value) : Option (List UInt8) → Prop
  | none => ∃ A n c, cs = [.bool true, .bool true, .slice A n c]
  | some l => ∃ A n c, cs = [.bool true, .bool false, .slice A n c] ∧ Rd w1 A (bvs l) ∧ l.length = n ∧ n ≤ c ∧ c ≤ maxLen ∧ ∀ ad, A = some ad → D ad.block
theorem RdL.p (H : Loc w1 D L w) {i g : Nat} {cs : List Value} {st : Option (List UInt8)} (hL : L[i]? = some (g, 195, cs)) (h : RdL w1 D cs st) : RdP (fun k => ¬ D k) w g st := by
  have hb := H.blk (List.mem_of_getElem? hL)
  cases st with
  | none => obtain ⟨A, n, c, rfl⟩ := h; exact ⟨A, n, c, hb⟩
  | some l =>
    obtain ⟨A, n, c, rfl, h1, h2, h3, h4, h5⟩ := h; exact ⟨A, n, c, hb, h2, h3, h4, H.rd h5 h1, fun ad e => not_not_intro (h5 ad e)⟩
theorem RdL.of (H : Loc w1 D L w) {g : Nat} {st : Option (List UInt8)} (h : RdP (fun k => ¬ D k) w g st) : ∃ cs, Blk w g 195 cs ∧ RdL w1 D cs st := by
  cases st with
  | none => obtain ⟨A, n, c, hb⟩ := h; exact ⟨_, hb, A, n, c, rfl⟩
  | some l =>
    obtain ⟨A, n, c, hb, h1, h2, h3, h4, h5⟩ := h; refine ⟨_, hb, A, n, c, rfl, ?_, h1, h2, h3, fun ad e => Classical.not_not.1 (h5 ad e)⟩; intro hn; obtain ⟨ad, e, hc⟩ := h4 hn; refine ⟨ad, e, fun k u hu => ?_⟩; have h6 := hc k u hu
    have hd : D (ad.add k).block := by
      have : (ad.add k).block = ad.block := by unfold Addr.add; split <;> rfl
      rw [this]; exact Classical.not_not.1 (h5 ad e)
    rwa [World.cell?_of_block (w := w1) (H.heap hd)] at h6
theorem Loc.tookN {N : Nat} {v : Value} {l : List UInt8} (H : Loc w0 D L w) (hD : ∀ k, D k → k < N) (hL : ∀ x ∈ L, x.1 < N) (ho : OwnB w N E v l) : ∃ G sv, v = Sv.v sv ∧ Gw E 1 G sv l.length (bvs l) ∧ Loc w0 D (L ++ (G ++ [])) w := by
  rcases ho with ⟨rfl, rfl⟩ | ⟨g, sp, rfl, hg, hm, hk⟩
  · exact ⟨[], Sv.nil, rfl, Gw.nil _ _, by simpa using H⟩
  · refine ⟨[(g, E, bvs l ++ bvs sp)], ⟨some ⟨g, 0, none⟩, l.length, l.length + sp.length⟩, rfl, ⟨by simp [bvs], .inr ⟨g, l.length + sp.length, bvs sp, rfl, rfl, by omega, hm, by simp [bvs]⟩⟩, H.fr, ?_, ?_, H.old⟩
    · intro x hx
      rcases List.mem_append.1 hx with hx | hx
      · exact H.own x hx
      · simp at hx
        subst hx; exact ⟨fun hd => by have := hD _ hd; omega, by rw [← xbz]; exact hk⟩
    · refine List.pairwise_append.2 ⟨H.nd, by simp, fun x hx y hy e => ?_⟩
      simp at hy; subst hy; have := hL x hx; have e' : x.1 = g := e; omega
theorem xf2 {i g : Nat} {cs : List Value} {st : Option (List UInt8)} (H : Loc w1 D L w) (hL : L[i]? = some (g, 195, cs)) (hR : RdL w1 D cs st) (k : Int) (hk : -9223372036854775808 ≤ k ∧ k ≤ 9223372036854775807) (hb : ∀ l, st = some l → l.length ≤ 140737488351232) :
    Calls Tryz.prog 53 #[.pointer (some ⟨g, 0, none⟩), .int .i64 k] w fun e w' => ∃ G sv cs', e = .returned (Sv.v sv) ∧ Gw 5 1 G sv (xbw st k).length (bvs (xbw st k)) ∧ RdL w1 D cs' (xbt st k) ∧ Loc w1 D ((L.set i (g, 195, cs')) ++ (G ++ [])) w' := by
  refine (xob g st k w (hR.p H hL) (H.own _ (List.mem_of_getElem? hL)).1 hk hb).mono ?_; rintro e w' ⟨v, rfl, h1, h2, h3⟩; have hgD := (H.own _ (List.mem_of_getElem? hL)).1; have H' : Loc w1 D [] w' := (H.drop [] (List.nil_sublist _)).frame (T := (· = g)) h3 (fun k hk => hk ▸ hgD) (fun x hx => by simp at hx); obtain ⟨cs', h4, h5⟩ := RdL.of H' h2
  obtain ⟨G, sv, rfl, h6, h7⟩ := (H.putF hL h4 h3).tookN (fun k hk => H.lt hk) (fun x hx => by
    rcases List.mem_or_eq_of_mem_set hx with hx | rfl
    · exact (H.own x hx).2.lt
    · exact (H.own _ (List.mem_of_getElem? hL)).2.lt) h1
  exact ⟨G, sv, cs', rfl, h6, h5, h7⟩
theorem u16_L {i g : Nat} {cs : List Value} {st : Option (List UInt8)} (H : Loc w1 D L w) (hL : L[i]? = some (g, 195, cs)) (hR : RdL w1 D cs st) (hb : ∀ l, st = some l → l.length ≤ 140737488351232) :
    Calls Tryz.prog 58 #[.pointer (some ⟨g, 0, none⟩)] w fun e w' => e = .returned (.int .i64 (numL st 2 : Nat)) ∧ ∃ cs', RdL w1 D cs' (xbt st 2) ∧ Loc w1 D (L.set i (g, 195, cs')) w' := by
  refine (u16_any g st w (hR.p H hL) (H.own _ (List.mem_of_getElem? hL)).1 hb).mono ?_; rintro e w' ⟨rfl, h2, h3⟩; have hgD := (H.own _ (List.mem_of_getElem? hL)).1; have H' : Loc w1 D [] w' := (H.drop [] (List.nil_sublist _)).frame (T := (· = g)) h3 (fun k hk => hk ▸ hgD) (fun x hx => by simp at hx); obtain ⟨cs', h4, h5⟩ := RdL.of H' h2; exact ⟨rfl, cs', h5, H.putF hL h4 h3⟩
theorem xq3 {i g : Nat} {cs : List Value} {st : Option (List UInt8)} (H : Loc w1 D L w) (hL : L[i]? = some (g, 195, cs)) (hR : RdL w1 D cs st) :
    Calls Tryz.prog 60 #[.pointer (some ⟨g, 0, none⟩)] w fun e w' => e = .returned (.int .i64 (xck st : Nat)) ∧ w = w' := left_any g st w (hR.p H hL)
theorem xpf {i g : Nat} {cs : List Value} {st : Option (List UInt8)} (H : Loc w1 D L w) (hL : L[i]? = some (g, 195, cs)) (hR : RdL w1 D cs st) :
    Calls Tryz.prog 59 #[.pointer (some ⟨g, 0, none⟩)] w fun e w' => e = .returned (.bool (badB st)) ∧ w = w' := bad_any g st w (hR.p H hL)
theorem Loc.reader {g c : Nat} {A : Option Addr} {l : List UInt8} (H : Loc w0 (Old w0) L w) (M : Made w w' g 195 (fun v => [.bool true, .bool false, v]) A c l) :
    Loc w0 (Old w0) ((g, 195, [.bool true, .bool false, .slice A l.length c]) :: L) w' ∧ Loc w' (Rest w' ((g, 195, [.bool true, .bool false, .slice A l.length c]) :: L)) ((g, 195, [.bool true, .bool false, .slice A l.length c]) :: L) w' ∧
      RdL w' (Rest w' ((g, 195, [.bool true, .bool false, .slice A l.length c]) :: L)) [.bool true, .bool false, .slice A l.length c] (some l) := by
  have H' := H.next M.bel
  have H1 : Loc w0 (Old w0) ((g, 195, [.bool true, .bool false, .slice A l.length c]) :: L) w' := by
    refine ⟨H'.fr, ?_, ?_, H'.old⟩
    · intro x hx
      rcases List.mem_cons.1 hx with rfl | hx
      · exact ⟨fun hd => by have h1 := H.lt hd; have h2 := M.new; have h3 : g < w.heap.size := h1; omega, M.blk⟩
      · exact H'.own x hx
    · refine List.pairwise_cons.2 ⟨fun y hy e => ?_, H'.nd⟩
      have h1 := (H.own y hy).2.lt; have h2 := M.new; have e' : g = y.1 := e; omega
  refine ⟨H1, H1.redo (Fr.refl (fun _ => False) _) (fun _ _ h => h), A, l.length, c, rfl, M.rd, rfl, M.cap, M.max, fun ad e => ?_⟩; obtain ⟨h1, h2, h3⟩ := M.far ad e; refine ⟨h3, fun x hx e2 => ?_⟩; rcases List.mem_cons.1 hx with rfl | hx
  · exact h1 e2.symm
  · have := (H.own x hx).2.lt
    omega
theorem xf3 {S : TypeId} (B : BT P T E S) (d s : Operand) (ho : o.op = .call { callee := .builtin .copy, args := #[d, s], argTypes := #[T, T] }) (H : Loc w0 D L w) (i : Nat)
    (g off dLen dCap : Nat) (A : Option Addr) (n sCap : Nat) (hd : a.eval d = .slice (some ⟨g, off, none⟩) dLen dCap) (hs : a.eval s = .slice A n sCap)
    (t : TypeId) (cs cs' : List Value) (l : List UInt8) (hL : L[i]? = some (g, t, cs)) (hr : Rd w A (bvs l)) (hn : l.length = n) (hfit : off + dLen ≤ cs.length) (hc : splice cs off (bvs (l.take dLen)) = cs')
    (h : ∀ w', Loc w0 D (L.set i (g, t, cs')) w' → K (a.put o.dst (.int .i64 (min n dLen : Nat))) w') : o.wp P a w K Q := by
  obtain ⟨ii, hi, hz, hsz, hb⟩ := info_parts B.i; subst hn; have hg := H.blk (List.mem_of_getElem? hL); have h1e : (P.info? E).map (·.size) = some 1 := by rw [hi]; simp [hsz]
  have hlen : (bvs (l.take dLen)).length = Nat.min l.length dLen := by
    show _ = min l.length dLen; simp [bvs]; omega
  have fin : ∀ w', Blk w' g t (splice cs off (bvs (l.take dLen))) → w.grownBy w' (some g) → K (a.put o.dst (.int .i64 (min l.length dLen : Nat))) w' := fun w' hb hgr => h w' (H.putAt hL (by rw [← hc]; exact hb) hgr)
  by_cases hpos : 0 < (bvs l).length
  · obtain ⟨ad, rfl, hcell⟩ := hr hpos
    have hsrc : ∀ j u, (bvs (l.take dLen))[j]? = some u → w.cell? (ad.add j) = some u := by
      intro j u hu; apply hcell
      have hj : j < (l.take dLen).length := by
        have := (List.getElem?_eq_some_iff.1 hu).1; rwa [xae] at this
      rw [xcz, List.getElem?_take_of_lt (by simp at hj; omega)] at hu; rw [xcz, hu]
    have hfl : off + (bvs (l.take dLen)).length ≤ cs.length := by
      rw [hlen]; have : Nat.min l.length dLen ≤ dLen := Nat.min_le_right _ _; omega
    have hrun := run_copy_row (P := P) w T T o.type E g off dLen dCap ad l.length sCap cs.toArray t (bvs (l.take dLen)) B.t h1e hg hlen hsrc (by simpa using hfl) (xbk _); have := fin _ (hg.row (splice cs off (bvs (l.take dLen)))) (xc0 w g _); have e : cs.take off ++ bvs (l.take dLen) ++ cs.drop (off + (bvs (l.take dLen)).length) = splice cs off (bvs (l.take dLen)) := by simp [splice]
    unfold Oper.wp; simp only [execOp, ho, resolve, invoke, builtin, hd, hs, Sem.run_bind, Sem.run_pure, Result.andThen_ok, List.map_toArray, qk, ql, hrun]; rw [e, hlen]; exact this
  · have hl0 : l = [] := List.eq_nil_of_length_eq_zero (by rw [xae] at hpos; omega)
    subst hl0; have hrun := run_copy_none (P := P) w T T o.type E (some ⟨g, off, none⟩) A dLen dCap 0 sCap B.t h1e (by simp); have := fin w (by simpa [bvs, xcq] using hg) (World.grownBy.refl _ _); unfold Oper.wp; simp only [execOp, ho, resolve, invoke, builtin, hd, hs, Sem.run_bind, Sem.run_pure, Result.andThen_ok, List.map_toArray, qk, ql, qs, hrun]; simp only [qs, Nat.zero_min, Int.natCast_zero] at this; exact this
theorem xex (B : W1 P T) (x : Operand) (ho : o.op = .load T x) (ad : Addr) (i : Nat) (vs : List Value) (v : Value) (hx : a.eval x = .pointer (some (ad.add i))) (hr : Rd w (some ad) vs) (hv : vs[i]? = some v) :
    (execOp a.eval o).run P w = .ok (.value v) w := by
  obtain ⟨d, hu, hd⟩ := B.u; have hi := (List.getElem?_eq_some_iff.1 hv).1; obtain ⟨ad', e, hc⟩ := hr (by omega); cases e; exact xby hu hd x ho _ _ hx (hc i v hv)
end
def StS (st : Option (List UInt8)) : Prop := ∀ l, st = some l → l.length ≤ 140737488351232
theorem StS.take {st : Option (List UInt8)} (h : StS st) (k : Int) : StS (xbt st k) := by
  intro l e
  cases st with
  | none => cases e
  | some r =>
    unfold xbt at e; simp only at e
    split at e
    · injection e with e
      subst e; have := h r rfl; rw [List.length_drop]; omega
    · cases e
theorem StS.takeL {st : Option (List UInt8)} (h : StS st) (k : Int) : (xbw st k).length ≤ 140737488351232 := by
  cases st with
  | none => simp [Go.Proofs.YtkjjdgnkelchfaaGreat.xbw]
  | some r =>
    have := h r rfl; unfold Go.Proofs.YtkjjdgnkelchfaaGreat.xbw; simp only
    split
    · rw [List.length_take]; omega
    · simp
theorem xfm {l : List UInt8} {k : Nat} (h : k ≤ l.length) : xbt (some l) k = some (l.drop k) := by
  unfold xbt; simp only; rw [if_pos ⟨by omega, by omega⟩, Int.toNat_natCast]
theorem xgd {l : List UInt8} {k : Nat} (h : l.length < k) : xbt (some l) k = none := by
  unfold xbt; simp only; rw [if_neg (by omega)]
theorem xdd {l : List UInt8} {k : Nat} (h : k ≤ l.length) : xbw (some l) k = l.take k := by
  unfold xbw; simp only; rw [if_pos ⟨by omega, by omega⟩, Int.toNat_natCast]
theorem xif {l : List UInt8} {k : Nat} (h : l.length < k) : xbw (some l) k = [] := by
  unfold xbw; simp only; rw [if_neg (by omega)]
theorem xpg (l : List UInt8) (h : 2 ≤ l.length) : nOf (l.take 2) = num2 l := by
  match l, h with
  | a :: b :: r, _ => simp [nOf, num2, Nat.mul_comm]
theorem xsh (st : Option (List UInt8)) : numL st 2 < 65536 := by
  have h1 := xh0 (xbw st ((2 : Nat) : Int)); have h2 : (xbw st ((2 : Nat) : Int)).length ≤ 2 := xod st 2; have h3 : 256 ^ (xbw st ((2 : Nat) : Int)).length ≤ 256 ^ 2 := Nat.pow_le_pow_right (by omega) h2; unfold numL; omega
def xfn (l : List UInt8) : Option (List UInt8) := xbt (xbt (some l) 2) (((numL (some l) 2 + 7) / 8 : Nat) : Int)
def xce (l : List UInt8) : List UInt8 := xbw (xbt (some l) 2) (((numL (some l) 2 + 7) / 8 : Nat) : Int)
def xet (E l : List UInt8) : Option (List Bts × Bts) := match xfn l with
  | none => none
  | some r => xcy E (xce l) (numL (some l) 2) 0 r
theorem xq4 (E l : List UInt8) (h : 256 < numL (some l) 2) : xe7 E l = none := by
  have h2 : 2 ≤ l.length := by
    rcases Nat.lt_or_ge l.length 2 with h1 | h1
    · exfalso
      unfold numL at h; rw [show ((2 : Nat) : Int) = (2 : Int) from rfl] at h; have := xif (l := l) (k := 2) h1; rw [show ((2 : Nat) : Int) = (2 : Int) from rfl] at this; rw [this] at h; simp [nOf] at h
    · exact h1
  have e : numL (some l) 2 = num2 l := by
    unfold numL; have := xdd (l := l) (k := 2) h2; rw [this, xpg l h2]
  unfold xe7; rw [if_neg (by omega), if_pos (by omega)]
theorem xph (E l : List UInt8) (h : numL (some l) 2 ≤ 256) : xe7 E l = match xet E l with
    | none => none
    | some (ss, q) => match decE q with
      | .bad => none
      | x => some (ss, x) := by
  unfold xet xfn xce; rcases Nat.lt_or_ge l.length 2 with h1 | h1
  · have e : xbt (some l) 2 = none := xgd (l := l) (k := 2) h1
    rw [e]; unfold xe7; rw [if_pos h1]; rfl
  · have e : xbt (some l) 2 = some (l.drop 2) := xfm (l := l) (k := 2) h1
    have en : numL (some l) 2 = num2 l := by
      unfold numL; have := xdd (l := l) (k := 2) h1; rw [this, xpg l h1]
    rw [e, en]; rw [en] at h; unfold xe7; rw [if_neg (by omega), if_neg (by omega)]; by_cases h2 : (l.drop 2).length < (num2 l + 7) / 8
    · rw [xgd h2, if_pos h2]
    · rw [xfm (by omega), xdd (by omega), if_neg h2]
      rfl
def RdI (E l : List UInt8) (i : Nat) (ds : List D32) (st : Option (List UInt8)) : Prop :=
  ds.length = i ∧ StS st ∧ ((st = none ∧ xet E l = none) ∨ ∃ r, st = some r ∧ (xce l).length = (numL (some l) 2 + 7) / 8 ∧ xet E l = (xcy E (xce l) (numL (some l) 2 - i) i r).map fun x => (ds.map D32.l ++ x.1, x.2))
theorem RdI.b {E l : List UInt8} {i : Nat} {ds : List D32} {st : Option (List UInt8)} (h : RdI E l i ds st) : ∀ q, st = some q → q.length ≤ 140737488351232 := by
  obtain ⟨_, h, _⟩ := h; exact h
theorem RdI.n {E l : List UInt8} {i : Nat} {ds : List D32} {st : Option (List UInt8)} (h : RdI E l i ds st) : ds.length = i := by
  obtain ⟨h, _, _⟩ := h; exact h
theorem xq5 (x y : D32) : splice x.c 0 (bvs (y.l.take 32)) = y.c := by
  rw [List.take_of_length_le (by rw [y.h]; omega)]; show splice x.c 0 y.c = y.c; simp [splice, D32.cl]
theorem xgy (sv : Sv) (l : List UInt8) (w : World) (h : Tx w sv.A sv.n sv.c l) : Calls Tryz.prog 99 #[sv.v] w fun e w' => ∃ (x : Nod) (er : Int), e = .returned (.tuple #[.agg x.cells.toArray, .int .i64 er]) ∧ Below w.heap.size w w' ∧ ((er = 0 ∧ xo9 x (decE l)) ∨ (er = 10 ∧ decE l = .bad)) := xpa _ _ _ _ _ h
theorem xpi {l r : List UInt8} (h : xfn l = some r) : (xce l).length = (numL (some l) 2 + 7) / 8 := by
  unfold xfn at h; unfold xce
  cases hs : xbt (some l) 2 with
  | none => rw [hs] at h; cases h
  | some q =>
    rw [hs] at h; rcases Nat.lt_or_ge q.length ((numL (some l) 2 + 7) / 8) with h1 | h1
    · rw [xgd h1] at h; cases h
    · rw [xdd h1, List.length_take]; omega
theorem rdI_zero (E l : List UInt8) (hl : l.length ≤ 140737488351232) : RdI E l 0 [] (xfn l) := by
  refine ⟨rfl, ?_, ?_⟩
  · have h : StS (some l) := fun _ e => by cases e; exact hl
    exact (h.take _).take _
  · cases hs : xfn l with
    | none => exact .inl ⟨rfl, by unfold xet; rw [hs]⟩
    | some r =>
      refine .inr ⟨r, rfl, xpi hs, ?_⟩; unfold xet; rw [hs]; simp only [Nat.sub_zero, ql, qn]; cases xcy E (xce l) (numL (some l) 2) 0 r <;> rfl
theorem rdI_bare {E : D32} {l : List UInt8} {i : Nat} {ds : List D32} {r : List UInt8} (h : RdI E.l l i ds (some r)) (hi : i < numL (some l) 2) (hb : tb (xce l) i = false) : RdI E.l l (i + 1) (ds ++ [E]) (some r) := by
  obtain ⟨h1, h2, ⟨h3, _⟩ | ⟨r', h3, h4, h5⟩⟩ := h
  · cases h3
  · cases h3
    refine ⟨by simp [h1], h2, .inr ⟨r, rfl, h4, ?_⟩⟩; obtain ⟨m, hm⟩ : ∃ m, numL (some l) 2 - i = m + 1 := ⟨numL (some l) 2 - i - 1, by omega⟩; have hm' : numL (some l) 2 - (i + 1) = m := by omega
    rw [h5, hm, hm', xcy, hb]; simp only [Bool.false_eq_true, if_false]
    cases xcy E.l (xce l) m (i + 1) r with
    | none => rfl
    | some x => obtain ⟨a, b⟩ := x; simp
theorem rdI_take {E : D32} {l : List UInt8} {i : Nat} {ds : List D32} {r : List UInt8} (h : RdI E.l l i ds (some r)) (hi : i < numL (some l) 2) (hb : tb (xce l) i = true) (hr : 32 ≤ r.length) (d : D32) (hd : d.l = r.take 32) : RdI E.l l (i + 1) (ds ++ [d]) (some (r.drop 32)) := by
  obtain ⟨h1, h2, ⟨h3, _⟩ | ⟨r', h3, h4, h5⟩⟩ := h
  · cases h3
  · cases h3
    refine ⟨by simp [h1], fun q e => by cases e; have := h2 r rfl; rw [List.length_drop]; omega, .inr ⟨_, rfl, h4, ?_⟩⟩; obtain ⟨m, hm⟩ : ∃ m, numL (some l) 2 - i = m + 1 := ⟨numL (some l) 2 - i - 1, by omega⟩; have hm' : numL (some l) 2 - (i + 1) = m := by omega
    rw [h5, hm, hm', xcy, hb]; simp only [if_true]; rw [if_neg (by omega)]
    cases xcy E.l (xce l) m (i + 1) (r.drop 32) with
    | none => rfl
    | some x => obtain ⟨a, b⟩ := x; simp [hd]
theorem rdI_few {E : D32} {l : List UInt8} {i : Nat} {ds : List D32} {r : List UInt8} (h : RdI E.l l i ds (some r)) (hi : i < numL (some l) 2) (hb : tb (xce l) i = true) (hr : r.length < 32) (d : D32) : RdI E.l l (i + 1) (ds ++ [d]) none := by
  obtain ⟨h1, h2, ⟨h3, _⟩ | ⟨r', h3, h4, h5⟩⟩ := h
  · cases h3
  · cases h3
    refine ⟨by simp [h1], (fun q e => by cases e), .inl ⟨rfl, ?_⟩⟩; obtain ⟨m, hm⟩ : ∃ m, numL (some l) 2 - i = m + 1 := ⟨numL (some l) 2 - i - 1, by omega⟩; rw [h5, hm, xcy, hb]; simp [hr]
theorem xsi {E l : List UInt8} {i : Nat} {ds : List D32} {r : List UInt8} (h : RdI E l i ds (some r)) (hi : i = numL (some l) 2) : xet E l = some (ds.map D32.l, r) := by
  obtain ⟨h1, h2, ⟨h3, _⟩ | ⟨r', h3, h4, h5⟩⟩ := h
  · cases h3
  · cases h3
    rw [h5, hi, Nat.sub_self, xcy]; simp
theorem xsj {E l : List UInt8} {i : Nat} {ds : List D32} (h : RdI E l i ds none) : xet E l = none := by
  obtain ⟨h1, h2, ⟨_, h3⟩ | ⟨r', h3, h4, h5⟩⟩ := h
  · exact h3
  · cases h3
section
variable {P : Program} {w : World} {a : Act} {o : Oper} {t t' : TypeId}
theorem xcg {b : Bool} (x : Operand) (ho : o.op = .unOp .not t x) (c : Bool) (hx : a.eval x = .bool c) (hb : (!c) = b) : (execOp a.eval o).run P w = .ok (.value (.bool b)) w := by
  subst hb; unfold execOp; simp only [ho, hx]; go_simp
theorem xc4 {b : Bool} {k : IntKind} (x y : Operand) (ho : o.op = .binOp .neq t x y t') (m n : Int) (hx : a.eval x = .int k m) (hy : a.eval y = .int k n) (h : (!(m == n)) = b) : (execOp a.eval o).run P w = .ok (.value (.bool b)) w := by
  subst h; unfold execOp; simp only [ho, hx, hy]; go_simp
  try rfl
end
theorem Gw.rdA {E z n : Nat} {G L0 L1 : List (Nat × Nat × List Value)} {v : Sv} {xs : List Value} {D : Nat → Prop} {w0 w : World} {ad : Addr} (h : Gw E z G v n xs) (H : Loc w0 D (L0 ++ (G ++ L1)) w) (e : v.A = some ad) : Rd w (some ad) xs := e ▸ h.rd H
theorem Gw.tx {G L0 L1 : List (Nat × Nat × List Value)} {v : Sv} {l : List UInt8} {D : Nat → Prop} {w0 w : World} (h : Gw 5 1 G v l.length (bvs l)) (H : Loc w0 D (L0 ++ (G ++ L1)) w) : Tx w v.A v.n v.c l := ⟨h.len.symm, h.cap.1, h.cap.2, h.rd H, fun _ _ h => h⟩
theorem Loc.dropT {D : Nat → Prop} {w0 w : World} (L0 : List (Nat × Nat × List Value)) {G1 G2 G3 : List (Nat × Nat × List Value)} (H : Loc w0 D (L0 ++ (G1 ++ (G2 ++ (G3 ++ [])))) w) : Loc w0 D (L0 ++ (G1 ++ (G2 ++ []))) w :=
  H.drop _ (List.Sublist.append (.refl _) (List.Sublist.append (.refl _) (List.Sublist.append (.refl _) (List.nil_sublist _))))
theorem xfo {w : World} {g : Nat} {x y : Prv} (h : Blk w g 34 (splice x.cells 0 y.cells)) : Blk w g 34 y.cells := by
  have e : splice x.cells 0 y.cells = y.cells := by simp [splice, Prv.len]
  rwa [e] at h
theorem Loc.oldRest {w0 w1 : World} {L0 : List (Nat × Nat × List Value)} (H1 : Loc w0 (Old w0) L0 w1) (k : Nat) (hk : k < w0.heap.size) : Rest w1 L0 k := ⟨Nat.lt_of_lt_of_le hk H1.fr.size, fun x hx e => (H1.own x hx).1 (by rw [e]; exact hk)⟩
theorem Gw.far {E z n N : Nat} {G L0 L1 : List (Nat × Nat × List Value)} {v : Sv} {xs : List Value} {D : Nat → Prop} {w0 w : World} (h : Gw E z G v n xs) (H : Loc w0 D (L0 ++ (G ++ L1)) w) (hD : ∀ k, k < N → D k) : ∀ ad, v.A = some ad → N ≤ ad.block := by
  obtain ⟨hl, ⟨rfl, rfl, rfl⟩ | ⟨g, cap, tl, rfl, rfl, h1, h2, h3⟩⟩ := h
  · intro ad e; cases e
  · intro ad e
    cases e; rcases Nat.lt_or_ge g N with h4 | h4
    · exact absurd (hD g h4) (H.own (g, E, xs ++ tl) (by simp)).1
    · exact h4
theorem Sds.keep {D : Nat → Prop} {L : List (Nat × Nat × List Value)} {w1 w : World} {v : Sv} {ds : List D32} (h : Sds w1 v ds) (H : Loc w1 D L w) (hD : ∀ ad, v.A = some ad → ad.block < w1.heap.size → D ad.block) : Sds w v ds := by
  refine ⟨fun hn => ?_, h.len, h.cap⟩; obtain ⟨ad, e, hc⟩ := h.rd hn; refine H.rd (fun ad' e' => ?_) h.rd hn; rw [e] at e'; cases e'; refine hD ad e ?_; have := World.block_lt_of_cell? _ _ (hc 0 _ (List.getElem?_eq_getElem hn)); rwa [show (ad.add 0).block = ad.block by unfold Addr.add; split <;> rfl] at this
theorem Loc.after {D : Nat → Prop} {L : List (Nat × Nat × List Value)} {w0 w w1 : World} (H : Loc w0 D L w) (hb : Below w.heap.size w w1) : Loc w1 (Rest w1 L) L w1 := (H.next hb).redo (Fr.refl (fun _ => False) _) (fun _ _ h => h)
theorem Loc.fresh {D : Nat → Prop} {L : List (Nat × Nat × List Value)} {w0 w w1 : World} (H : Loc w0 D L w) {k : Nat} (h1 : w.heap.size ≤ k) (h2 : k < w1.heap.size) : Rest w1 L k := ⟨h2, fun x hx e => by have := (H.own x hx).2.lt; omega⟩
def PkR (n : Nat) (w0 : World) (l : List UInt8) (e : Ending) (w' : World) : Prop := ∃ (x : Prv) (b : Bool), e = .returned (.tuple #[.agg x.cells.toArray, .bool b]) ∧ Below n w0 w' ∧
  ((b = true ∧ ∃ ds f, Sds w' x.sides ds ∧ (∀ ad, x.sides.A = some ad → n ≤ ad.block) ∧ xe7 tagE.l l = some (ds.map D32.l, f) ∧ xo9 x.nod f) ∨ (b = false ∧ xe7 tagE.l l = none))
section
variable {w w' : World}
theorem xpj (A : Option Addr) (n c : Nat) (l : List UInt8) (h : Tx w A n c l) (hn : n ≤ 140737488351232) (hlong : 256 < numL (some l) 2) : Calls Tryz.prog 46 #[.slice A n c] w (PkR w.heap.size w l) := by
  have hr := h.rd; have hl := h.len; have k1 : decide ((256 : Int) < ((numL (some l) 2 : Nat) : Int)) = true := by simp; omega
  have hB0 : ∀ q, some l = some q → q.length ≤ 140737488351232 := fun q e => by cases e; omega
  clear h; have HL := Loc.start w; obtain ⟨w0, rfl⟩ := eW w; go_enter Tryz.func46, Tryz.ntmps46; go_upto_region 0 with fail; refine Xv ?_; refine xah zr34 rfl rfl HL ?_; clear HL; intro g2 w HL; refine X1c ?_; go_upto_region 1 with fail; refine X1y ?_; intro K hK; refine Xan ?_; refine Xao ?_; rintro e w ⟨gr, A1, c1, rfl, M⟩; obtain ⟨H1, HL1, hR⟩ := HL.reader M; clear HL M; have HL := HL1; clear HL1; obtain ⟨w1, rfl⟩ := eW w; refine Xaq ?_; intro HBK HOD; generalize Rest w1 _ = D1 at HL hR HBK HOD; generalize hcs : [Value.bool true, Value.bool false, Value.slice A1 l.length c1] = cs0 at HL hR; clear H1 hcs; refine X2q ?_; clear hK K; go_upto_region 2 with fail; refine X1y ?_; intro K hK; refine Xar ?_; (with_reducible refine (u16_L (i := 0) HL rfl hR hB0).mono ?_); rintro e w ⟨rfl, cs1, hR1, HL1⟩; clear HL hR; have HL := HL1; clear HL1; simp only [qg, qh] at HL
  have hR : RdL w1 D1 cs1 (xbt (some l) 2) := hR1; clear hR1; refine X2q ?_; clear hK K; go_upto_region 3 with fail; refine X14 ?_; refine X91 ?_; go_upto_region 4 with fail; refine Xas ?_; refine X5 ?_; refine Xau ?_; clear HL; intro w HL; go_wp2_with fail; refine Xf ?_; refine Xav ?_; exact ⟨Prv.z, false, rfl, HBK _ _ HL, .inr ⟨rfl, xq4 _ _ hlong⟩⟩
theorem xq6 (A : Option Addr) (n c : Nat) (l : List UInt8) (h : Tx w A n c l) (hn : n ≤ 140737488351232) (hfew : numL (some l) 2 ≤ 256) : Calls Tryz.prog 46 #[.slice A n c] w (PkR w.heap.size w l) := by
  have hr := h.rd; have hl := h.len; have k1 : decide ((256 : Int) < ((numL (some l) 2 : Nat) : Int)) = false := by simp; omega
  have hB0 : ∀ q, some l = some q → q.length ≤ 140737488351232 := fun q e => by cases e; omega
  have hB1 : ∀ q, xbt (some l) 2 = some q → q.length ≤ 140737488351232 := StS.take hB0 2; have hz := rdI_zero tagE.l l (by omega); have hrp := xph tagE.l l hfew; obtain ⟨N, hN⟩ : ∃ N, numL (some l) 2 = N := ⟨_, rfl⟩; have hST : xbt (xbt (some l) 2) (((N + 7) / 8 : Nat) : Int) = xfn l := by unfold xfn; rw [hN]
  have hBT : xbw (xbt (some l) 2) (((N + 7) / 8 : Nat) : Int) = xce l := by unfold xce; rw [hN]
  have hN2 : N ≤ 256 := by omega
  have hRP := hZ hrp; have HN := hZ hN; clear h hrp hfew; have HL := Loc.start w; obtain ⟨w0, rfl⟩ := eW w; go_enter Tryz.func46, Tryz.ntmps46; go_upto_region 0 with fail; refine Xv ?_; refine xah zr34 rfl rfl HL ?_; clear HL; intro g2 w HL; refine X1c ?_; go_upto_region 1 with fail; refine X1y ?_; intro K hK; refine Xan ?_; refine Xao ?_; rintro e w ⟨gr, A1, c1, rfl, M⟩; obtain ⟨H1, HL1, hR⟩ := HL.reader M; clear HL M; have HL := HL1; clear HL1; obtain ⟨w1, rfl⟩ := eW w; refine Xaq ?_; intro HBK HOD; generalize Rest w1 _ = D1 at HL hR HBK HOD; generalize hcs : [Value.bool true, Value.bool false, Value.slice A1 l.length c1] = cs0 at HL hR; clear H1 hcs; refine X2q ?_; clear hK K; go_upto_region 2 with fail; refine X1y ?_; intro K hK; refine Xar ?_; (with_reducible refine (u16_L (i := 0) HL rfl hR hB0).mono ?_); rintro e w ⟨rfl, cs1, hR1, HL1⟩; clear HL hR; have HL := HL1; clear HL1
  simp only [qg, qh] at HL; have hR : RdL w1 D1 cs1 (xbt (some l) 2) := hR1; clear hR1; refine X2q ?_; clear hK K; rw [hN] at k1 ⊢; clear hN; have CB := fun u => hZ (xiv u N (by omega))
  go_upto_region 3 with fail; refine X14 ?_; refine X91 ?_; go_upto_region 5 with fail; refine X2n ?_; intro K hK; refine xad cf98 rfl _ rfl ?_; refine X1z ?_; refine Xaw ?_; rintro e w ⟨rfl, rfl⟩; refine Xa5 ?_; clear hK K; intro K hK; refine Xax ?_; (with_reducible refine (xf2 (i := 0) HL rfl hR (((N + 7) / 8 : Nat) : Int) (by omega) hB1).mono ?_); rintro e w ⟨G6, s6, cs2, rfl, hG6, hR2, HL2⟩; clear HL hR; have HL := HL2; clear HL2; simp only [qg, qh, qm, qn] at HL; rw [hBT] at hG6; rw [hST] at hR2; refine X2q ?_; clear hK K; go_upto_region 6 with fail; refine Xv ?_; refine xah zr34 rfl rfl HL ?_; clear HL; intro g7 w HL; refine X22 ?_; go_upto_region 7 with fail; refine X8h ?_; intro K hK; refine Xa8 ?_; refine X1z ?_; refine Xa9 ?_; refine X5x ?_; clear hK K; intro w HL; refine xah zr23 rfl rfl HL ?_; clear HL; intro g8 w HL; refine X60 ?_; clear HL; intro w HL
  go_upto_region 8 with fail; refine X1k ?_; generalize hst0 : xfn l = st0 at hR2 hz; clear hst0 hST hBT hB1 hB0; go_wp2_with fail
  go_loopw [9] (fun z wr => ∃ (i : Nat) (ds : List D32) (st : Option (List UInt8)) (cs : List Value) (G : List (Nat × Nat × List Value)) (sv : Sv), i ≤ N ∧ z = .int .i64 (i : Int) ∧ RdI tagE.l l i ds st ∧ RdL w1 D1 cs st ∧ Gw 23 32 G sv i (ds.flatMap D32.c) ∧
    Loc w1 D1 ((g8, 23, tagE.c) :: (g7, 34, ({Prv.z with sides := sv} : Prv).cells) :: (gr, 195, cs) :: (g2, 34, Prv.z.cells) :: (G6 ++ (G ++ []))) wr) (fun z _ => (N - intOf z).toNat)
  case atStart => exact ⟨0, [], st0, cs2, [], Sv.nil, Nat.zero_le _, rfl, hz, hR2, Gw.nil 23 32, HL⟩
  case round =>
    clear HL hz hR2; obtain ⟨i, ds, st, cs, G, sv, hi, rfl, hI, hR, hG, HL⟩ := hrel; obtain ⟨w, rfl⟩ := eW wr; by_cases hlt : i < N
    · have k9 : decide ((i : Int) < (N : Int)) = true := by simp; omega
      refine Xaa ?_; intro HI
      cases st with
      | none =>
        go_upto_region 9 with fail; refine X1b ?_; refine Xay ?_; refine X1o ?_; refine X5o ?_; intro K hK; refine Xaz ?_; (with_reducible refine (xpf (i := 2) HL rfl hR).mono ?_); rintro e w ⟨rfl, rfl⟩; refine X5q ?_; clear hK K; refine Xb1 ?_; have hTL : xbw (none) ((xck (none) : Nat) : Int) = [] := by rfl
        go_upto_region 15 with fail; refine X2n ?_; intro K hK; refine Xb3 ?_; rintro e w ⟨rfl, rfl⟩; refine Xa5 ?_; clear hK K; intro K hK; refine Xax ?_; (with_reducible refine (xf2 (i := 2) HL rfl hR ((xck (none) : Nat) : Int) (by simp only [xck]; omega) hI.b).mono ?_); rintro e w ⟨Gt, sT, cs', rfl, hGt, hR', HL'⟩; clear HL hR; have HL := HL'; have hR := hR'; clear HL' hR'; simp only [qg, qh, qm, qo, qn] at HL; rw [hTL] at hGt; refine Xb4 ?_; intro hTX; refine Xa5 ?_; clear hK K; intro K hK; refine xad cf99 rfl _ rfl ?_; refine X1z ?_; (with_reducible refine (xgy sT [] _ hTX).mono ?_); rintro e w ⟨x, er, rfl, hb, hx⟩; replace HL := HL.next hb; clear hb hTX; refine X5c ?_; clear hK K; refine xah zr32 rfl rfl HL ?_; clear HL; intro g11 w HL; refine X82 ?_; refine X4k ?_; clear HL; intro w HL; go_upto_region 16 with fail; refine Xv ?_; refine X85 ?_; refine X8p ?_
        refine xea ag32 rfl _ _ rfl HL 2 _ _ _ _ _ _ rfl rfl rfl (Nod.len _) (by rw [Prv.len]; decide) (Nod.one _) (Prv.s_nod _ _) ?_; refine X3j ?_; clear HL; intro w HL; obtain ⟨HX, hb2, hn2, hne2⟩ := HL.out (L0 := [_, _, _, _]); clear HL; have HL := HX; clear HX; simp only [qm, qn] at HL hne2; go_upto_region 17 with fail; refine Xb5 ?_; refine X37 ?_; intro HL; refine Xb6 ?_; refine Xb7 ?_; intro K hK; refine Xaz ?_; refine Xb8 ?_; rintro e w ⟨rfl, rfl⟩; refine X65 ?_; clear hK K; refine Xb9 ?_; refine X3d ?_; refine X7n ?_; refine Xk ?_; intro K hK; refine xav ag34.i _ _ rfl g2 0 34 _ _ rfl rfl hb2.drew (Prv.len _) (by rw [Prv.len]; decide) (Prv.one _) ?_; intro w' hb' hg' _; replace HL := HL.aside hg' hn2 hne2; replace hb2 := xfo hb'; refine Xa0 ?_; clear hK K; go_wp2_with fail; refine Xf ?_; refine Xba ?_; refine ⟨_, false, rfl, HBK _ _ HL, .inr ⟨rfl, ?_⟩⟩
        rw [hRP.out, xsj hI]
      | some r =>
        have hbl : (xce l).length = (N + 7) / 8 := by
          obtain ⟨_, _, ⟨e, _⟩ | ⟨_, _, h4, _⟩⟩ := hI
          · cases e
          · rw [h4, HN.out]
        have hs6n : s6.n = (N + 7) / 8 := by rw [hG6.len, hbl]
        obtain ⟨ad6, hA6⟩ : ∃ ad, s6.A = some ad := by
          obtain ⟨ad, e, _⟩ := hG6.rd (L0 := [_, _, _, _]) HL (by rw [xae]; omega); exact ⟨ad, e⟩
        have HS6 : s6.v = .slice (some ad6) s6.n s6.c := by unfold Sv.v; rw [hA6]
        obtain ⟨q, hq⟩ : ∃ q, i / 8 = q := ⟨_, rfl⟩; obtain ⟨m, hm⟩ : ∃ m, i % 8 = m := ⟨_, rfl⟩; obtain ⟨sh, hsh⟩ : ∃ sh, 2 ^ (7 - m) = sh := ⟨_, rfl⟩; have hsh8 : sh < 256 := by rw [← hsh, ← hm]; exact xq2 i
        have hm8 : m < 8 := by omega
        have hx : (bvs (xce l))[q * 1]? = some (.int .u8 ((((xce l).getD q 0).toNat : Nat) : Int)) := by
          have h1 : q < (xce l).length := by omega
          rw [Nat.mul_one, xcz]; simp [List.getD, h1, bv]
        have hxl : ((xce l).getD q 0).toNat < 256 := UInt8.toNat_lt _; have htb := tb_and (xce l) i; rw [hq, hm, hsh] at htb; have HQ := hZ hq; have HM := hZ hm; have HSH := hZ hsh; clear hm hsh; generalize ((xce l).getD q 0).toNat = x at *; go_upto_region 9 with fail; refine X1b ?_; refine Xay ?_; refine X1o ?_; refine X5o ?_; intro K hK; refine Xaz ?_; (with_reducible refine (xpf (i := 2) HL rfl hR).mono ?_); rintro e w ⟨rfl, rfl⟩; refine X5q ?_; clear hK K; refine Xbb ?_; refine X2c ?_; go_upto_region 11 with fail; refine Xac ?_; refine xah zr23 rfl rfl HL ?_; clear HL; intro g10 w HL; refine X60 ?_; clear HL; intro w HL
        cases hbit : tb (xce l) i with
        | false =>
          have hbt : (!(((x &&& sh : Nat) : Int) == 0)) = false := by rw [htb, hbit]; rfl
          have HNX := rdI_bare hI (by rw [HN.out]; exact hlt) hbit; clear htb hbit; go_upto_region 12 with fail; refine rB (Loc.P HL) [] [] [0, 1, 2, 3, 4, 5, 6, 7, 8, 9] 0 ?_; refine X3u ?_; intro HL; refine Xag ?_; refine X5 ?_; refine Xbc ?_; refine X5 ?_; refine Xbd ?_; refine X3d ?_; refine Xai ?_; refine X5 ?_; refine Xaj ?_; refine Xbe ?_; refine X5 ?_; refine xac rfl rfl HL (fun W hW => xc4 (b := false) _ _ rfl _ _ rfl rfl hbt) ?_; refine Xd ?_; go_upto_region 14 with fail; refine X8k ?_; refine X95 ?_; refine X5 ?_; refine X98 ?_; refine X5 ?_; refine Xbf ?_; clear HL; intro g53 w HL K hK; refine Xbg ?_; clear HL hG; intro sv' G' w hG HL; simp only [qm] at HL; refine Xa6 ?_; clear hK K; refine X8j ?_; refine xaw sc29 rfl _ _ rfl HL 3 _ _ _ _ _ _ rfl rfl rfl rfl (by rw [Prv.len]; decide) (Prv.s_sides _ _) ?_; refine X3j ?_; clear HL; intro w HL; go_upto_region 10 with fail
          refine Xbh ?_; go_wp2_with fail; go_roundw
          case rel =>
            refine ⟨i + 1, ds ++ [tagE], _, _, G', sv', by omega, rfl, HNX, hR, ?_, (HL.drop _ (sB _ _)).drop _ (sB _ _)⟩; rw [List.flatMap_append]; simpa using hG
          case measure => simp [intOf] <;> omega
        | true =>
          have hbt : (!(((x &&& sh : Nat) : Int) == 0)) = true := by rw [htb, hbit]; rfl
          go_upto_region 12 with fail; refine rB (Loc.P HL) [] [] [0, 1, 2, 3, 4, 5, 6, 7, 8, 9] 0 ?_; refine X3u ?_; intro HL; refine Xag ?_; refine X5 ?_; refine Xbc ?_; refine X5 ?_; refine Xbd ?_; refine X3d ?_; refine Xai ?_; refine X5 ?_; refine Xaj ?_; refine Xbe ?_; refine X5 ?_; refine xac rfl rfl HL (fun W hW => xc4 (b := true) _ _ rfl _ _ rfl rfl hbt) ?_; refine Xd ?_; by_cases hr32 : 32 ≤ r.length
          · have HNX := rdI_take hI (by rw [HN.out]; exact hlt) hbit hr32 ⟨r.take 32, by simp; omega⟩ rfl
            rw [← show xbt (some r) 32 = some (r.drop 32) from xfm (k := 32) hr32] at HNX; clear htb hbit
            have hcp : splice tagE.c 0 (bvs ((xbw (some r) 32).take 32)) = (⟨r.take 32, by simp; omega⟩ : D32).c := by
              rw [show xbw (some r) 32 = r.take 32 from xdd (k := 32) hr32]; exact xq5 tagE ⟨r.take 32, by simp; omega⟩
            have HX := HL; replace HL := HL.drop [] (List.nil_sublist _); go_upto_region 13 with fail; refine rB (Loc.P HL) [] [2, 3] [0, 1, 2, 3] 0 ?_; refine X37 ?_; intro HL; refine X3e ?_; refine Xb7 ?_; intro K hK; refine Xbi ?_; rintro e w ⟨Gt, sT, cs', rfl, hGt, hR', HX'⟩; replace HL := HX'.drop [] (List.nil_sublist _); simp only [qg, qh, qm, qo, qn] at HX'; refine X6m ?_; clear hK K; intro K hK; refine xf3 bt _ _ rfl HX' 0 g10 0 32 32 sT.A sT.n sT.c rfl rfl 23 tagE.c _ (xbw (some r) 32) rfl (hGt.rd (L0 := _ :: _ :: _ :: _ :: _ :: (G6 ++ G)) (L1 := []) (by simpa only [List.cons_append, List.append_assoc] using HX')) hGt.len.symm (by rw [D32.cl]; decide) hcp ?_; clear HL HX; intro w HX; refine Xbj ?_; intro HL; refine Xbk ?_; clear hK K; clear HL; have HL := Loc.dropT [_, _, _, _, _] HX; clear HX HX' hR; have hR := hR'; clear hR'; simp only [qm, qn, qg] at HL; go_upto_region 14 with fail
            refine X8k ?_; refine X95 ?_; refine X5 ?_; refine X98 ?_; refine X5 ?_; refine Xbf ?_; clear HL; intro g53 w HL K hK; refine xam sl29 el23 _ _ rfl (_ :: _ :: _ :: _ :: _ :: _ :: G6) _ sv _ hG HL rfl ⟨g53, 0, none⟩ 1 1 (⟨r.take 32, by simp; omega⟩ : D32).c rfl (Rd.of_blk0 (es := []) (by simpa using HL.blk (.head _))) (D32.cl _) (D32.c1 _) (by omega) (by omega) (by omega) ?_; clear HL hG; intro sv' G' w hG HL; simp only [qm] at HL; refine Xa6 ?_; clear hK K; refine X8j ?_; refine xaw sc29 rfl _ _ rfl HL 3 _ _ _ _ _ _ rfl rfl rfl rfl (by rw [Prv.len]; decide) (Prv.s_sides _ _) ?_; refine X3j ?_; clear HL; intro w HL; go_upto_region 10 with fail; refine Xbh ?_; go_wp2_with fail; go_roundw
            case rel =>
              refine ⟨i + 1, ds ++ [(⟨r.take 32, by simp; omega⟩ : D32)], _, _, G', sv', by omega, rfl, HNX, hR, ?_, (HL.drop _ (sB _ _)).drop _ (sB _ _)⟩; rw [List.flatMap_append]; simpa using hG
            case measure => simp [intOf] <;> omega
          · have HNX := rdI_few hI (by rw [HN.out]; exact hlt) hbit (by omega) tagE
            rw [← show xbt (some r) 32 = none from xgd (k := 32) (by omega)] at HNX; clear htb hbit
            have hcp : splice tagE.c 0 (bvs ((xbw (some r) 32).take 32)) = tagE.c := by
              rw [show xbw (some r) 32 = [] from xif (k := 32) (by omega)]; simp [bvs, splice]
            have HX := HL; replace HL := HL.drop [] (List.nil_sublist _); go_upto_region 13 with fail; refine rB (Loc.P HL) [] [2, 3] [0, 1, 2, 3] 0 ?_; refine X37 ?_; intro HL; refine X3e ?_; refine Xb7 ?_; intro K hK; refine Xbi ?_; rintro e w ⟨Gt, sT, cs', rfl, hGt, hR', HX'⟩; replace HL := HX'.drop [] (List.nil_sublist _); simp only [qg, qh, qm, qo, qn] at HX'; refine X6m ?_; clear hK K; intro K hK; refine xf3 bt _ _ rfl HX' 0 g10 0 32 32 sT.A sT.n sT.c rfl rfl 23 tagE.c _ (xbw (some r) 32) rfl (hGt.rd (L0 := _ :: _ :: _ :: _ :: _ :: (G6 ++ G)) (L1 := []) (by simpa only [List.cons_append, List.append_assoc] using HX')) hGt.len.symm (by rw [D32.cl]; decide) hcp ?_; clear HL HX; intro w HX; refine Xbj ?_; intro HL; refine Xbk ?_; clear hK K; clear HL; have HL := Loc.dropT [_, _, _, _, _] HX; clear HX HX' hR; have hR := hR'; clear hR'; simp only [qm, qn, qg] at HL; go_upto_region 14 with fail
            refine X8k ?_; refine X95 ?_; refine X5 ?_; refine X98 ?_; refine X5 ?_; refine Xbf ?_; clear HL; intro g53 w HL K hK; refine Xbg ?_; clear HL hG; intro sv' G' w hG HL; simp only [qm] at HL; refine Xa6 ?_; clear hK K; refine X8j ?_; refine xaw sc29 rfl _ _ rfl HL 3 _ _ _ _ _ _ rfl rfl rfl rfl (by rw [Prv.len]; decide) (Prv.s_sides _ _) ?_; refine X3j ?_; clear HL; intro w HL; go_upto_region 10 with fail; refine Xbh ?_; go_wp2_with fail; go_roundw
            case rel =>
              refine ⟨i + 1, ds ++ [tagE], _, _, G', sv', by omega, rfl, HNX, hR, ?_, (HL.drop _ (sB _ _)).drop _ (sB _ _)⟩; rw [List.flatMap_append]; simpa using hG
            case measure => simp [intOf] <;> omega
    · have k9 : decide ((i : Int) < (N : Int)) = false := by simp; omega
      cases st with
      | none =>
        go_upto_region 9 with fail; refine X1b ?_; refine Xay ?_; refine X59 ?_; have hTL : xbw (none) ((xck (none) : Nat) : Int) = [] := by rfl
        go_upto_region 15 with fail; refine X2n ?_; intro K hK; refine Xb3 ?_; rintro e w ⟨rfl, rfl⟩; refine Xa5 ?_; clear hK K; intro K hK; refine Xax ?_; (with_reducible refine (xf2 (i := 2) HL rfl hR ((xck (none) : Nat) : Int) (by simp only [xck]; omega) hI.b).mono ?_); rintro e w ⟨Gt, sT, cs', rfl, hGt, hR', HL'⟩; clear HL hR; have HL := HL'; have hR := hR'; clear HL' hR'; simp only [qg, qh, qm, qo, qn] at HL; rw [hTL] at hGt; refine Xb4 ?_; intro hTX; refine Xa5 ?_; clear hK K; intro K hK; refine xad cf99 rfl _ rfl ?_; refine X1z ?_; (with_reducible refine (xgy sT [] _ hTX).mono ?_); rintro e w ⟨x, er, rfl, hb, hx⟩; replace HL := HL.next hb; clear hb hTX; refine X5c ?_; clear hK K; refine xah zr32 rfl rfl HL ?_; clear HL; intro g11 w HL; refine X82 ?_; refine X4k ?_; clear HL; intro w HL; go_upto_region 16 with fail; refine Xv ?_; refine X85 ?_; refine X8p ?_
        refine xea ag32 rfl _ _ rfl HL 2 _ _ _ _ _ _ rfl rfl rfl (Nod.len _) (by rw [Prv.len]; decide) (Nod.one _) (Prv.s_nod _ _) ?_; refine X3j ?_; clear HL; intro w HL; obtain ⟨HX, hb2, hn2, hne2⟩ := HL.out (L0 := [_, _, _, _]); clear HL; have HL := HX; clear HX; simp only [qm, qn] at HL hne2; go_upto_region 17 with fail; refine Xb5 ?_; refine X37 ?_; intro HL; refine Xb6 ?_; refine Xb7 ?_; intro K hK; refine Xaz ?_; refine Xb8 ?_; rintro e w ⟨rfl, rfl⟩; refine X65 ?_; clear hK K; refine Xb9 ?_; refine X3d ?_; refine X7n ?_; refine Xk ?_; intro K hK; refine xav ag34.i _ _ rfl g2 0 34 _ _ rfl rfl hb2.drew (Prv.len _) (by rw [Prv.len]; decide) (Prv.one _) ?_; intro w' hb' hg' _; replace HL := HL.aside hg' hn2 hne2; replace hb2 := xfo hb'; refine Xa0 ?_; clear hK K; go_wp2_with fail; refine Xf ?_; refine Xba ?_; refine ⟨_, false, rfl, HBK _ _ HL, .inr ⟨rfl, ?_⟩⟩
        rw [hRP.out, xsj hI]
      | some r =>
        go_upto_region 9 with fail; refine X1b ?_; refine Xay ?_; refine X59 ?_; have hTL : xbw (some r) ((xck (some r) : Nat) : Int) = r := by simp only [xck]; rw [xdd (Nat.le_refl _), List.take_length]
        go_upto_region 15 with fail; refine X2n ?_; intro K hK; refine Xb3 ?_; rintro e w ⟨rfl, rfl⟩; refine Xa5 ?_; clear hK K; intro K hK; refine Xax ?_; (with_reducible refine (xf2 (i := 2) HL rfl hR ((xck (some r) : Nat) : Int) (by have := hI.b r rfl; simp only [xck]; omega) hI.b).mono ?_); rintro e w ⟨Gt, sT, cs', rfl, hGt, hR', HL'⟩; clear HL hR; have HL := HL'; have hR := hR'; clear HL' hR'; simp only [qg, qh, qm, qo, qn] at HL; rw [hTL] at hGt; rw [show xbt (some r) ((xck (some r) : Nat) : Int) = some (r.drop r.length) from xfm (Nat.le_refl _)] at hR; refine Xb4 ?_; intro hTX; refine Xa5 ?_; clear hK K; intro K hK; refine xad cf99 rfl _ rfl ?_; refine X1z ?_; (with_reducible refine (xgy sT r _ hTX).mono ?_); rintro e w ⟨x, er, rfl, hb, hx⟩; replace HL := HL.next hb; clear hb hTX; refine X5c ?_; clear hK K
        refine xah zr32 rfl rfl HL ?_; clear HL; intro g11 w HL; refine X82 ?_; refine X4k ?_; clear HL; intro w HL; go_upto_region 16 with fail; refine Xv ?_; refine X85 ?_; refine X8p ?_; refine xea ag32 rfl _ _ rfl HL 2 _ _ _ _ _ _ rfl rfl rfl (Nod.len _) (by rw [Prv.len]; decide) (Nod.one _) (Prv.s_nod _ _) ?_; refine X3j ?_; clear HL; intro w HL; rcases hx with ⟨rfl, hx⟩ | ⟨rfl, hx⟩
        · obtain ⟨HX, hb2, hn2, hne2⟩ := HL.out (L0 := [_, _, _, _])
          clear HL; have HL := HX; clear HX; simp only [qm, qn] at HL hne2; go_upto_region 17 with fail; refine Xb5 ?_; refine X37 ?_; intro HL; refine Xb6 ?_; refine Xb7 ?_; intro K hK; refine Xaz ?_; refine Xb8 ?_; rintro e w ⟨rfl, rfl⟩; refine X65 ?_; clear hK K; refine Xbl ?_; refine X6k ?_; refine xac rfl rfl HL (fun W hW => xao (b := true) _ _ rfl _ _ rfl rfl rfl) ?_; refine X3f ?_; refine Xk ?_; intro K hK; refine xav ag34.i _ _ rfl g2 0 34 _ _ rfl rfl hb2.drew (Prv.len _) (by rw [Prv.len]; decide) (Prv.one _) ?_; intro w' hb' hg' _; replace HL := HL.aside hg' hn2 hne2; replace hb2 := xfo hb'; refine Xa0 ?_; clear hK K; go_wp2_with fail; refine Xf ?_; refine Xba ?_; refine ⟨_, true, rfl, HBK _ _ HL, .inl ⟨rfl, ds, decE r, ?_, ?_, ?_, hx⟩⟩
          · exact ⟨hG.rd (L0 := _ :: _ :: _ :: _ :: G6) HL, by show ds.length = sv.n; rw [hG.len]; exact hI.n, hG.cap.1⟩
          · exact hG.far (L0 := _ :: _ :: _ :: _ :: G6) HL HOD
          · rw [hRP.out, xsi hI (by rw [HN.out]; omega)]
            simp only
            split
            · rename_i e; rw [e] at hx; exact hx.elim
            · rfl
        · obtain ⟨HX, hb2, hn2, hne2⟩ := HL.out (L0 := [_, _, _, _])
          clear HL; have HL := HX; clear HX; simp only [qm, qn] at HL hne2; go_upto_region 17 with fail; refine Xb5 ?_; refine X37 ?_; intro HL; refine Xb6 ?_; refine Xb7 ?_; intro K hK; refine Xaz ?_; refine Xb8 ?_; rintro e w ⟨rfl, rfl⟩; refine X65 ?_; clear hK K; refine Xbl ?_; refine X6k ?_; refine xac rfl rfl HL (fun W hW => xao (b := false) _ _ rfl _ _ rfl rfl rfl) ?_; refine X3f ?_; refine Xk ?_; intro K hK; refine xav ag34.i _ _ rfl g2 0 34 _ _ rfl rfl hb2.drew (Prv.len _) (by rw [Prv.len]; decide) (Prv.one _) ?_; intro w' hb' hg' _; replace HL := HL.aside hg' hn2 hne2; replace hb2 := xfo hb'; refine Xa0 ?_; clear hK K; go_wp2_with fail; refine Xf ?_; refine Xba ?_; refine ⟨_, false, rfl, HBK _ _ HL, .inr ⟨rfl, ?_⟩⟩; rw [hRP.out, xsi hI (by rw [HN.out]; omega)]; simp only [hx]
end
theorem xua {x : Nod} {f : Option (Bts × Bts)} (h : xo9 x (.end_ f)) : okN x = true ∧ x.kind ≠ 2 ∧ finN x = f := by
  cases f with
  | none => cases h; exact ⟨by decide +kernel, by decide, rfl⟩
  | some p =>
    obtain ⟨k, v⟩ := p; obtain ⟨K, V, rfl, rfl, rfl⟩ := h; exact ⟨by simp [okN, xdf, xer], (show (1 : Nat) ≠ 2 by decide), rfl⟩
theorem xpk {x : Nod} {l r : Bts} (h : xo9 x (.inner l r)) : x.kind = 2 := by
  obtain ⟨K, V, _, _, rfl⟩ := h; rfl
theorem xub {E b : Bts} {l : List Bts} {f : EndR} (hE : E.length = 32) (h : xe7 E b = some (l, f)) : l.length ≤ 256 := by
  unfold xe7 at h
  split at h
  · cases h
  split at h
  · cases h
  split at h
  · cases h
  split at h
  · cases h
  · rename_i l' q hs
    obtain ⟨h1, _⟩ := xlw E _ hE _ _ _ _ _ hs
    split at h
    · cases h
    · injection h with h
      injection h with h2 _; rw [← h2, h1]; omega
theorem xdt (sv : Sv) (l : List UInt8) (B : Option Addr) (m d : Nat) (k : List UInt8) (w : World) (ha : Tx w sv.A sv.n sv.c l) (hb : Rd w B (bvs k)) (hk : k.length = m) :
   Calls Tryz.prog 48 #[sv.v, .slice B m d] w fun e w' => e = .returned (.int .i64 (Lib.compareBytes l k)) ∧ w = w' := xdy _ _ _ l B m d k w ha.rd ha.len hb hk
theorem xq7 (A : Option Addr) (n c : Nat) (l : List UInt8) (w : World) (h : Tx w A n c l) (hn : n ≤ 140737488351232) : Calls Tryz.prog 46 #[.slice A n c] w (PkR w.heap.size w l) := by
  by_cases hf : numL (some l) 2 ≤ 256
  · exact xq6 A n c l h hn hf
  · exact xpj A n c l h hn (by omega)
def PkD (n : Nat) (w0 : World) (l : List UInt8) (e : Ending) (w' : World) : Prop := ∃ (x : Prv) (er : Int), e = .returned (.tuple #[.agg x.cells.toArray, .int .i64 er]) ∧ Below n w0 w' ∧
  ((er = 0 ∧ ∃ ds, Sds w' x.sides ds ∧ (∀ ad, x.sides.A = some ad → n ≤ ad.block) ∧ decP tagE.l l = some (pfOf ds x.nod) ∧ okN x.nod = true ∧ x.kind ≠ 2 ∧ x.sides.n ≤ 256) ∨ (er = 10 ∧ decP tagE.l l = none))
section
variable {w w' : World}
theorem xl0 (A : Option Addr) (n c : Nat) (l : List UInt8) (w : World) (h : Tx w A n c l) (hn : n ≤ 140737488351232) : Calls Tryz.prog 7 #[.slice A n c] w (PkD w.heap.size w l) := by
  have HT := hZ h; clear h; have HL := Loc.start w; obtain ⟨w0, rfl⟩ := eW w; go_enter Tryz.func7, Tryz.ntmps7; go_upto_region 0 with fail; refine Xv ?_; refine xah zr34 rfl rfl HL ?_; clear HL; intro g2 w HL; refine X1c ?_; go_upto_region 1 with fail; refine X1y ?_; intro K hK; refine xad cf46 rfl _ rfl ?_; refine X1z ?_; (with_reducible refine (xq7 A n c l _ (HT.out.below HL.below) hn).mono ?_); rintro e w ⟨x, b, rfl, hb, hx⟩; refine Xbn ?_; intro H1 hfr; have hsz := HL.fr.size; replace HL := HL.after hb; clear hb; obtain ⟨w1, rfl⟩ := eW w; refine Xaq ?_; intro HBK HOD; generalize Rest w1 _ = D1 at HL HBK hfr HOD; clear H1; refine X5c ?_; clear hK K; refine xah zr34 rfl rfl HL ?_; clear HL; intro g4 w HL; refine X5 ?_; refine Xbo ?_; refine X4k ?_; clear HL; intro w HL; rcases hx with ⟨rfl, ds, f, hs, hfar, hrp, hnod⟩ | ⟨rfl, hrp⟩
  · skip
    go_upto_region 2 with fail; refine Xbq ?_; refine X22 ?_; have hd := fun ad e h2 => hfr _ (hfar ad e) h2
    have hfar0 : ∀ ad, x.sides.A = some ad → w0.heap.size ≤ ad.block := fun ad e => Nat.le_trans hsz (hfar ad e)
    have hl : x.sides.n ≤ 256 := by rw [← hs.len]; have := xub tagE.h hrp; simpa using this
    have HS := hZ hs; have HRP := hZ hrp; clear hs hrp hfr hfar
    cases f with
    | bad => exact hnod.elim
    | inner l1 r1 =>
      have hk := xpk hnod; have hbad : ¬ (x.sides.n ≤ 256 ∧ okN x.nod = true ∧ x.kind ≠ 2) := fun e => e.2.2 hk
      go_upto_region 4 with fail; refine Xv ?_; refine Xa2 ?_; refine X57 ?_; intro K hK; refine Xbr ?_; (with_reducible refine (xlz x hbad).mono ?_); rintro e w ⟨er, rfl, her, hb⟩; replace HL := HL.next hb; clear hb; refine X6o ?_; clear hK K; go_upto_region 5 with fail; refine X14 ?_; refine Xa3 ?_; refine X73 ?_; go_upto_region 6 with fail; refine Xas ?_; refine X5 ?_; refine Xau ?_; clear HL; intro w HL; go_wp2_with fail; refine Xf ?_; refine Xav ?_; exact ⟨Prv.z, 10, rfl, HBK _ _ HL, .inr ⟨rfl, by unfold decP; rw [HRP.out]⟩⟩
    | end_ f =>
      obtain ⟨hok, hk0, hfin⟩ := xua hnod; have hk : x.kind ≠ 2 := hk0; go_upto_region 4 with fail; refine Xv ?_; refine Xa2 ?_; refine X57 ?_; intro K hK; refine Xbr ?_; (with_reducible refine (xpe x ds (HS.out.keep HL hd) hl hok hk).mono ?_); rintro e w ⟨v, rfl, ho, hb⟩; obtain ⟨G1, s1, rfl, hG1, HL1⟩ := HL.took hb ho; clear HL hb ho; have HL := HL1; clear HL1; simp only [qm, qn] at HL; refine X6o ?_; clear hK K; have hE : encP tagE.l ⟨ds.map D32.l, f⟩ = encP tagE.l (pfOf ds x.nod) := by rw [← hfin]; rfl
      cases heq : (encP tagE.l (pfOf ds x.nod) == l) with
      | true =>
        have k6 : (!(Lib.compareBytes (encP tagE.l (pfOf ds x.nod)) l == 0)) = false := by rw [xib, heq]; rfl
        go_upto_region 5 with fail; refine X94 ?_; refine X75 ?_; intro K hK; refine Xbs ?_; refine Xbt ?_; rintro e w ⟨rfl, rfl⟩; refine X5q ?_; clear hK K; refine Xbu ?_; refine X2c ?_; go_upto_region 7 with fail; refine Xv ?_; refine Xa2 ?_; refine X5 ?_; refine Xau ?_; clear HL; intro w HL; go_wp2_with fail; refine Xf ?_; refine Xav ?_; refine ⟨x, 0, rfl, HBK _ _ HL, .inl ⟨rfl, ds, HS.out.keep HL hd, hfar0, ?_, hok, hk, hl⟩⟩; unfold decP; rw [HRP.out]; simp only; rw [hE, if_pos (eq_of_beq heq)]; rw [← hfin]; rfl
      | false =>
        have k6 : (!(Lib.compareBytes (encP tagE.l (pfOf ds x.nod)) l == 0)) = true := by rw [xib, heq]; rfl
        go_upto_region 5 with fail; refine X94 ?_; refine X75 ?_; intro K hK; refine Xbs ?_; refine Xbt ?_; rintro e w ⟨rfl, rfl⟩; refine X5q ?_; clear hK K; refine Xbv ?_; refine X2c ?_; go_upto_region 6 with fail; refine Xas ?_; refine X5 ?_; refine Xau ?_; clear HL; intro w HL; go_wp2_with fail; refine Xf ?_; refine Xav ?_; refine ⟨Prv.z, 10, rfl, HBK _ _ HL, .inr ⟨rfl, ?_⟩⟩; unfold decP; rw [HRP.out]; simp only; rw [hE, if_neg (by simpa using heq)]
  · skip
    go_upto_region 2 with fail; refine Xbx ?_; refine X22 ?_; go_upto_region 3 with fail; refine Xas ?_; refine X5 ?_; refine Xau ?_; clear HL; intro w HL; go_wp2_with fail; refine Xf ?_; refine Xav ?_; exact ⟨Prv.z, 10, rfl, HBK _ _ HL, .inr ⟨rfl, by unfold decP; rw [hrp]⟩⟩
end
def tchB (fr tz : Bts) (top : Bts) (d : Nat) : Bool := decide (nOf fr ≤ nOf (xep top d true)) && decide (nOf (xep top d false) ≤ nOf tz)
def inB (fr tz k : Bts) : Bool := decide (nOf fr ≤ nOf k) && decide (nOf k ≤ nOf tz)
def spW (fr tz key : Bts) : SpW := ⟨tchB fr tz, fun t d => xe6 t d, fun k t d => xa1 k t d, inB fr tz, tb key, key⟩
def TopZ (top : Bts) (d : Nat) : Prop := top.length = 32 ∧ ∀ e, d ≤ e → e < 256 → tb top e = false
theorem xl1 : TopZ zb32 0 := by
  refine ⟨by simp [zb32], fun e _ he => ?_⟩
  have : zb32.getD (e / 8) 0 = 0 := by
    unfold zb32; simp only [List.getD_eq_getElem?_getD, List.getElem?_replicate]
    split <;> rfl
  unfold tb; rw [this]; simp
theorem tb_be (n e : Nat) (hn : n < 2 ^ 256) (he : e < 256) : tb (be 32 n) e = n.testBit (255 - e) := by
  rw [xee _ (xb1 _ _) e he, xmg hn]
theorem xhr (p : Bts) (hp : p.length = 32) (d e : Nat) (hd : d < 256) (he : e < 256) : tb (xe6 p d) e = if e = d then !tb p e else tb p e := by
  unfold xe6; rw [if_pos ⟨by omega, by omega⟩, Int.toNat_natCast, tb_be _ _ (xn0 _ _ (xdi hp) hd) he, xll _ _ _ he hd, ← xee p hp e he]
theorem xch (k t : Bts) (d : Nat) (hd : d ≤ 256) : xa1 k t d = true ↔ ∀ e, e < d → tb k e = tb t e := by
  unfold xa1; simp only [decide_eq_true_eq]; constructor
  · rintro ⟨_, _, h⟩ e he
    exact xh1 k t e (by omega)
  · intro h
    refine ⟨by omega, by omega, ?_⟩; by_cases hc : comm k t < d
    · exact absurd (h _ hc) (xfr k t (by omega))
    · omega
theorem xuc (k t : Bts) (d : Nat) (hd : 256 < d) : xa1 k t d = false := by
  unfold xa1; simp; omega
theorem fill_ge (p k : Bts) (hp : p.length = 32) (hk : k.length = 32) (d : Nat) (hd : d ≤ 256) (h : xa1 k p d = true) : nOf (xep p d false) ≤ nOf k ∧ nOf k ≤ nOf (xep p d true) := by
  have hdiv : nOf p / 2 ^ (256 - d) = nOf k / 2 ^ (256 - d) := by
    have := (comm_ge hk hp d hd).1 (by unfold xa1 at h; simp at h; omega); exact this.symm
  have hpos : 0 < 2 ^ (256 - d) := Nat.pow_pos (by omega); have hm := Nat.div_add_mod (nOf k) (2 ^ (256 - d)); have hlt := Nat.mod_lt (nOf k) hpos; unfold xep; rw [if_pos ⟨by omega, by omega⟩, if_pos ⟨by omega, by omega⟩, Int.toNat_natCast, xmg (xjn _ _ _ (xdi hp) hd), xmg (xjn _ _ _ (xdi hp) hd)]; unfold xha; rw [hdiv]; simp only [Bool.false_eq_true, if_false, if_true]; omega
theorem spW_ok (fr tz key : Bts) (hk : key.length = 32) (hin : inB fr tz key = true) : SpL (spW fr tz key) TopZ where
  open_ := by
    intro top d hz h; have h' : xa1 key top d = true := h; have ht := hz.1
    have hd : d ≤ 256 := by
      rcases Nat.lt_or_ge 256 d with h1 | h1
      · rw [xuc _ _ _ h1] at h'; cases h'
      · exact h1
    have hn := h'; unfold inB at hin; simp only [Bool.and_eq_true, decide_eq_true_eq] at hin; show tchB fr tz top d = true; unfold tchB; simp only [Bool.and_eq_true, decide_eq_true_eq]; obtain ⟨h2, h3⟩ := fill_ge top key ht hk d hd h'; omega
  left := fun top d h => ⟨h.1, fun e he => h.2 e (by omega)⟩
  right := by
    intro top d hd h; refine ⟨xhk _ _, fun e he hlt => ?_⟩; show tb (xe6 top d) e = false; rw [xhr top h.1 d e hd hlt, if_neg (by omega)]; exact h.2 e (by omega) hlt
  up := by
    intro k top d h; have h' : xa1 k top ((d + 1 : Nat) : Int) = true := h; show xa1 k top d = true; unfold xa1 at h' ⊢; simp only [decide_eq_true_eq] at h' ⊢; omega
  upr := by
    intro k top d hd hz h; have h' := (xch k (xe6 top d) (d + 1) (by omega)).1 h; refine (xch k top d (by omega)).2 fun e he => ?_
    rw [h' e (by omega), xhr top hz.1 d e hd (by omega), if_neg (by omega)]
  l := by
    intro top d hd hz h; have h1 := (xch key top d (by omega)).1 h; show xa1 key top ((d + 1 : Nat) : Int) = !tb key d
    cases hb : tb key d with
    | false =>
      refine (xch key top (d + 1) (by omega)).2 fun e he => ?_
      by_cases hed : e = d
      · subst hed; rw [hb, hz.2 e (by omega) hd]
      · exact h1 e (by omega)
    | true =>
      cases hu : xa1 key top ((d + 1 : Nat) : Int) with
      | false => rfl
      | true =>
        have := (xch key top (d + 1) (by omega)).1 hu d (by omega); rw [hb, hz.2 d (by omega) hd] at this; cases this
  r := by
    intro top d hd hz h; have h1 := (xch key top d (by omega)).1 h; show xa1 key (xe6 top d) ((d + 1 : Nat) : Int) = tb key d
    cases hb : tb key d with
    | true =>
      refine (xch key _ (d + 1) (by omega)).2 fun e he => ?_
      rw [xhr top hz.1 d e hd (by omega)]; by_cases hed : e = d
      · subst hed; rw [if_pos rfl, hb, hz.2 e (by omega) hd]; rfl
      · rw [if_neg hed]; exact h1 e (by omega)
    | false =>
      cases hu : xa1 key (xe6 top d) ((d + 1 : Nat) : Int) with
      | false => rfl
      | true =>
        have := (xch key _ (d + 1) (by omega)).1 hu d (by omega); rw [xhr top hz.1 d d hd hd, if_pos rfl, hb, hz.2 d (by omega) hd] at this; cases this
  has := hin
end Go.Proofs.YtkjjdgnkelchfaaGreat
