import Derived.Test.YtkjjdgnkelchfaaGreatPCU19
set_option linter.unusedSimpArgs false
set_option linter.unusedVariables false
set_option maxRecDepth 100000
set_option maxHeartbeats 16000000
namespace Go.Proofs.YtkjjdgnkelchfaaGreat
open Go Go.RowKit
def NoP (Q : Exit → Act → World → Prop) : Exit → Act → World → Prop := fun e a w => (∀ c, e ≠ .panic c) ∧ Q e a w
theorem wp_nop {P : Program} {c : Code} {Q : Exit → Act → World → Prop} {a : Act} {w : World} (h : c.wp P (NoP Q) a w) : c.wp P Q a w := wp_mono h fun e a w h => h.2
theorem Fr.sup {S T : Nat → Prop} {a b : World} (h : Fr S a b) (hs : ∀ k, S k → T k) : Fr T a b := ⟨h.os, h.tape, h.output, h.size, fun k hk hn => h.block k hk (fun n => hn (hs k n))⟩
theorem Rd.inside {w : World} {A : Option Addr} {cs : List Value} (h : Rd w A cs) (hne : cs ≠ []) : ∀ ad, A = some ad → ad.block < w.heap.size := fun ad e => by
  obtain ⟨ad', e', hc⟩ := h (List.length_pos_iff.2 hne); rw [e] at e'; cases e'; have := World.block_lt_of_cell? _ _ (hc 0 _ (List.getElem?_eq_getElem (List.length_pos_iff.2 hne))); rwa [show (ad.add 0).block = ad.block by unfold Addr.add; split <;> rfl] at this
theorem Rd.frE {S : Nat → Prop} {a b : World} {A : Option Addr} {cs : List Value} (h : Rd a A cs) (hf : Fr S a b) (hA : cs ≠ [] → ∀ ad, A = some ad → ¬ S ad.block) : Rd b A cs := by
  by_cases hne : cs = []
  · rw [hne]; intro hn; simp at hn
  · exact h.fr hf (hA hne)
theorem rows_ne {rs : List RE} (h : ((rs.map RE.r).flatMap Rw.cells) ≠ []) : rs ≠ [] := fun e => h (by rw [e]; rfl)
theorem xre {rs : List RE} (h : rs ≠ []) : ((rs.map RE.r).flatMap Rw.cells) ≠ [] := by
  cases rs with
  | nil => exact absurd rfl h
  | cons x l => simp [Rw.cells]
theorem ne_bvs {l : List UInt8} : bvs l ≠ [] ↔ l ≠ [] := by unfold bvs; simp
def RawF (T : Nat → Prop) (A : Option Addr) (rs : List RE) : Prop := (rs ≠ [] → ∀ ad, A = some ad → ¬ T ad.block) ∧ ∀ e ∈ rs, (e.k ≠ [] → ∀ ad, e.r.key.A = some ad → ¬ T ad.block) ∧ (e.v ≠ [] → ∀ ad, e.r.val.A = some ad → ¬ T ad.block)
theorem RawT.frF {D T : Nat → Prop} {w w' : World} {A : Option Addr} {n c : Nat} {rs : List RE} (h : RawT D w A n c rs) (hf : Fr T w w') (hF : RawF T A rs) : RawT D w' A n c rs :=
  ⟨h.rd.frE hf (fun hne => hF.1 (rows_ne hne)), h.len, h.cap, fun e he => ⟨(h.kt e he).len, (h.kt e he).cap, (h.kt e he).max, (h.kt e he).rd.frE hf (fun hne => (hF.2 e he).1 (ne_bvs.1 hne)), fun _ _ h => h⟩, fun e he => ⟨(h.vt e he).len, (h.vt e he).cap, (h.vt e he).max, (h.vt e he).rd.frE hf (fun hne => (hF.2 e he).2 (ne_bvs.1 hne)), fun _ _ h => h⟩, h.dv⟩
theorem RawF.less {T T' : Nat → Prop} {A : Option Addr} {rs : List RE} (h : RawF T A rs) (hs : ∀ k, T' k → T k) : RawF T' A rs :=
  ⟨fun hne ad e hk => h.1 hne ad e (hs _ hk), fun e he => ⟨fun hne ad e2 hk => (h.2 e he).1 hne ad e2 (hs _ hk), fun hne ad e2 hk => (h.2 e he).2 hne ad e2 (hs _ hk)⟩⟩
theorem RawF.step {D T T' : Nat → Prop} {w : World} {A : Option Addr} {n c : Nat} {rs : List RE} (h : RawF T A rs) (hW : RawT D w A n c rs) (hs : ∀ k, T' k → T k ∨ w.heap.size ≤ k) : RawF T' A rs :=
  ⟨fun hne ad e hk => (hs _ hk).elim (h.1 hne ad e) (fun h2 => by have := hW.rd.inside (xre hne) ad e; omega), fun e he => ⟨fun hne ad e2 hk => (hs _ hk).elim ((h.2 e he).1 hne ad e2) (fun h2 => by have := (hW.kt e he).rd.inside (ne_bvs.2 hne) ad e2; omega),
    fun hne ad e2 hk => (hs _ hk).elim ((h.2 e he).2 hne ad e2) (fun h2 => by have := (hW.vt e he).rd.inside (ne_bvs.2 hne) ad e2; omega)⟩⟩
theorem RawF.raw {D : Nat → Prop} {w : World} {A : Option Addr} {n c : Nat} {rs : List RE} {D' : Nat → Prop} (h : RawT D w A n c rs) (hF : RawF D' A rs) : RawT D' w A n c rs :=
  ⟨h.rd, h.len, h.cap, h.kt, h.vt, fun e he hne ad ea => (hF.2 e he).2 hne ad ea⟩
def jA (Y S : Nat → Prop) (gj : Nat) : Nat → Prop := fun k => Y k ∨ S k ∨ k = gj
section
variable {Y Y' S S2 S3 : Nat → Prop} {w0 w2 w4 w5 w6 w7 : World} {gj gk gd : Nat} {b b' : Sv} {l l' : List UInt8} {s n n' u u' : Nat} {t t' told : Tre}
theorem wri_gj (h : JrP Y S w0 gj gk gd b l s t n u) (h12 : Stp S w0 S2 w2) : ¬ S2 gj := fun hk => by
  rcases h12.new _ hk with h1 | h1
  · exact h.sj h1
  · have := h.jb.lt; omega
theorem wri_y (h : JrP Y S w0 gj gk gd b l s t n u) (h12 : Stp S w0 S2 w2) : ∀ k, Y k → ¬ S2 k := fun k hy hk => by
  rcases h12.new _ hk with h1 | h1
  · exact h.ys k hy h1
  · have := h.yl k hy; omega
theorem wri_held (h : JrP Y S w0 gj gk gd b l s t n u) (h12 : Stp S w0 S2 w2) (hB : Below w2.heap.size w2 w4) (h5 : Stp Y w4 Y' w5) (h6 : Fr (· = gj) w5 w6) (hd : DkH S2 w2 gd told t' u') : DkH S2 w6 gd told t' u' :=
  ((hd.below hB).fr h5.fr (fun k hk hy => wri_y h h12 k hy hk)).fr h6 (fun k hk e => wri_gj h h12 (by rw [← e]; exact hk))
theorem xou (h : JrP Y S w0 gj gk gd b l s t n u) (h12 : Stp S w0 S2 w2) (hlt2 : ∀ k, S2 k → k < w2.heap.size) (hB : Below w2.heap.size w2 w4) (h5 : Stp Y w4 Y' w5) (hY5 : ∀ k, Y' k → Y k ∨ k < w5.heap.size) (hd5 : DskP Y' w5 gk b' l' s)
    (h6 : Fr (· = gj) w5 w6) (hj6 : Blk w6 gj 151 (jrC gk gd n')) (h7 : Stp S2 w6 S3 w7) (hd7 : DkW S3 w7 gd t' u') : JrP Y' S3 w7 gj gk gd b' l' s t' n' u' ∧ Stp (jA Y S gj) w0 (jA Y' S3 gj) w7 := by
  have z2 := h12.fr.size; have z4 := hB.size; have z5 := h5.fr.size; have z6 := h6.size; have z7 := h7.fr.size; have zj := h.jb.lt; have ngj := wri_gj h h12
  have nyj : ¬ Y' gj := fun hk => by
    rcases h5.new _ hk with h1 | h1
    · exact h.yj h1
    · omega
  have ys2 : ∀ k, Y' k → ¬ S2 k := fun k hy hk => by
    rcases h5.new _ hy with h1 | h1
    · exact wri_y h h12 k h1 hk
    · have := hlt2 k hk; omega
  have ylt : ∀ k, Y' k → k < w5.heap.size := fun k hy => by
    rcases hY5 k hy with h1 | h1
    · have := h.yl k h1; omega
    · exact h1
  refine ⟨⟨hj6.fr h7.fr ngj, (hd5.fr h6 (fun k hk e => nyj (by rw [← e]; exact hk))).fr h7.fr ys2, hd7, fun k hy hk => ?_, nyj, fun hk => ?_, fun k hy => by have := ylt k hy; omega⟩, ?_, ?_, ?_⟩
  · rcases h7.new _ hk with h1 | h1
    · exact ys2 k hy h1
    · have := ylt k hy; omega
  · rcases h7.new _ hk with h1 | h1
    · exact ngj h1
    · omega
  · rintro k (hk | hk | rfl)
    · rcases h5.new _ hk with h1 | h1
      · exact .inl (.inl h1)
      · exact .inr (by omega)
    · rcases h7.new _ hk with h1 | h1
      · rcases h12.new _ h1 with h2 | h2
        · exact .inl (.inr (.inl h2))
        · exact .inr h2
      · exact .inr (by omega)
    · exact .inl (.inr (.inr rfl))
  · rintro k (hk | hk | rfl)
    · exact .inl (h5.old k hk)
    · exact .inr (.inl (h7.old k (h12.old k hk)))
    · exact .inr (.inr rfl)
  · have hT : Fr (fun k => jA Y S gj k ∨ w0.heap.size ≤ k) w0 w7 := by
      refine ((((h12.fr.sup (fun k hk => .inl (.inr (.inl hk)))).trans (Fr.of_below hB)).trans (h5.fr.sup (fun k hk => .inl (.inl hk)))).trans (h6.sup (fun k hk => .inl (.inr (.inr hk))))).trans (h7.fr.sup fun k hk => ?_); rcases h12.new _ hk with h2 | h2
      · exact .inl (.inr (.inl h2))
      · exact .inr h2
    exact ⟨hT.os, hT.tape, hT.output, hT.size, fun k hk hn => hT.block k hk (fun h1 => h1.elim hn (fun h2 => by omega))⟩
end
def WriO (Y S : Nat → Prop) (w : World) (gj gk gd : Nat) (b : Sv) (l : List UInt8) (s : Nat) (t : Tre) (n u : Nat) (rs : List RE) (m : Nat) (e : Ending) (w' : World) : Prop :=
  (xcj rs ≠ 0 ∧ e = .returned (.int .i64 (xcj rs)) ∧ ∃ S', JrP Y S' w' gj gk gd b l s t n u ∧ Stp (jA Y S gj) w (jA Y S' gj) w') ∨
  (xcj rs = 0 ∧ e = .returned (.int .i64 0) ∧ ∃ (t' : Tre) (Y' S' : Nat → Prop) (b' : Sv), JrP Y' S' w' gj gk gd b' (l ++ recO (rs, t')) s t' (n + 1) (u + 257 * m) ∧ Stp (jA Y S gj) w (jA Y' S' gj) w' ∧ SpA t (rs.map toE) t')
section
variable {Y S : Nat → Prop} {w w' : World} {gj gk gd : Nat} {b : Sv} {l : List UInt8} {s n u : Nat} {t : Tre}
theorem xov (h : JrP Y S w gj gk gd b l s t n u) (A : Option Addr) (m c : Nat) (rs : List RE) (hW : RawT (jA Y S gj) w A m c rs) (hF : RawF (jA Y S gj) A rs) (hm : m ≤ 8) (hbig : ∀ e ∈ rs, e.k.length ≤ 140737488351232) (hts : t.size ≤ 400000) (hfit : u + 258 * m ≤ 60000) (hdl : l.length + 9036 ≤ 1048576) (hn : n ≤ 1000000) :
    Calls Tryz.prog 20 #[.pointer (some ⟨gj, 0, none⟩), .slice A m c] w (WriO Y S w gj gk gd b l s t n u rs m) := by
  have HH := hZ h; have hgj : Old w gj := h.jb.lt; have hc1 := h.c1; have HW := hZ hW; have HF := hZ hF; have HBG := hZ hbig; have HDL := hZ hdl; have CS : ∀ v, Below w.heap.size w v → Hid (Calls Tryz.prog 72 #[.pointer (some ⟨gd, 0, none⟩), .string ⟨#[98, 101, 102, 111, 114, 101]⟩] v fun e w' => ∃ S', e = .returned (.int .i64 0) ∧ DkH S' w' gd t t u ∧ Stp S v S' w') := fun v hv => hZ (dk_snap (h.dc.below hv))
  clear h hW hF hbig hdl; have HL := Loc.start w; obtain ⟨w0, rfl⟩ := eW w; by_cases hr : xcj rs = 0
  · have HR := hZ hr
    have HG := hZ (xmw (by rw [HW.out.len]; exact hm) hr); clear hr
    go_enter_defers Tryz.func20, Tryz.ntmps20
    go_upto_region 0 with fail; refine X1j ?_; go_upto_region 1 with fail; refine X1x ?_; intro K hK; refine Xex ?_; refine X1y ?_; refine Xez ?_; rintro e w ⟨rfl, rfl⟩; refine X22 ?_; clear hK K; go_upto_region 3 with fail; refine Xf0 ?_; refine Xf1 ?_; refine X4z ?_; intro K hK; refine xac cf72 rfl _ rfl ?_; refine X1y ?_; (with_reducible refine ((CS _ HL.below).out).mono ?_); rintro e w ⟨S1, rfl, hD, hS⟩; have HD1 := hZ hD; have HS1 := hZ ((Stp.of_below HL.below).trans hS); clear HL hD hS; have HL := Loc.start w; obtain ⟨w1, rfl⟩ := eW w; refine X2n ?_; clear hK K; refine Xf2 ?_; intro HJ1 hgj1; have hc11 : w1.cell? ⟨gj, 1, none⟩ = some (.pointer (some ⟨gd, 0, none⟩)) := by rw [HJ1.out.cell]; rfl
    go_upto_region 4 with fail; refine Xcn ?_; go_upto_region 6 with fail; refine Xf0 ?_; refine Xf3 ?_; refine X4z ?_; intro K hK; refine Xf4 ?_; refine hK _ _ ?_; clear hK K; refine X16 ?_; refine Xf5 ?_; intro HF1; refine Xf6 ?_; intro HW1
    have CB : ∀ v, Below w1.heap.size w1 v → Hid (Calls Tryz.prog 74 #[.pointer (some ⟨gd, 0, none⟩), .slice A m c] v fun e w' => ∃ (t' : Tre) (S2 : Nat → Prop), e = .returned (.int .i64 0) ∧ DkH S2 w' gd t t' (u + 257 * m) ∧ Stp S1 v S2 w' ∧ SpA t (rs.map toE) t') := fun v hv => hZ ((xlg (HD1.out.below hv) A m c rs (HW1.out.below hv) (by omega) HBG.out hts hfit).mono fun e w' hx => by
      rcases hx with ⟨h1, _⟩ | ⟨_, t', S', h2, h3, h4, h5⟩
      · exact absurd HR.out h1
      · exact ⟨t', S', h2, h3, h4, h5⟩)
    go_upto_region 7 with fail; refine Xf0 ?_; refine Xf3 ?_; refine X42 ?_; intro K hK; refine xac cf74 rfl _ rfl ?_; refine X1y ?_; (with_reducible refine ((CB _ HL.below).out).mono ?_); rintro e w ⟨t', S2, rfl, hD, hS, hSp⟩; have HD2 := hZ hD; have HS2 := hZ ((Stp.of_below HL.below).trans hS); have HSP := hZ hSp; clear HL hD hS hSp CB; have HL := Loc.start w; obtain ⟨w2, rfl⟩ := eW w; refine X2n ?_; clear hK K; have HS12 := hZ (HS1.out.trans HS2.out); have HJ2 : Hid (Blk w2 gj 151 (jrC gk gd n)) := hZ (HH.out.jb.fr HS12.out.fr HH.out.sj); have HW2 : Hid (RawT S1 w2 A m c rs) := hZ (RawF.raw (HW.out.frF HS12.out.fr (HF.out.less (fun k hk => .inr (.inl hk)))) HF1.out); have hgj2 : Old w2 gj := HJ2.out.lt; have hc21 : w2.cell? ⟨gj, 1, none⟩ = some (.pointer (some ⟨gd, 0, none⟩)) := by rw [HJ2.out.cell]; rfl
    have HM11 : Hid (m ≤ 11) := hZ (by omega); go_upto_region 8 with fail; refine Xcn ?_; go_upto_region 10 with fail; refine X1x ?_; intro K hK; refine xac cf75 rfl _ rfl ?_; refine X1y ?_; (with_reducible refine (told_ok A m c rs (HW2.out.below HL.below) HM11.out HG.out.k HG.out.v).mono ?_); rintro e w ⟨vo, rfl, hov, hb⟩; obtain ⟨so, rfl, hyl, hyc, hym, hyr, _⟩ := xfq hov; have HB23 := hZ (HL.below.trans (hb.mono HL.below.size)); have HSO : Hid (Tx w so.A so.n so.c (xa5 rs)) := hZ ⟨hyl, hyc, hym, hyr, fun _ _ h => h⟩; clear HL hov hb hyl hyc hym hyr; have HL := Loc.start w; obtain ⟨w3, rfl⟩ := eW w; refine X2n ?_; clear hK K; have hgj3 : Old w3 gj := Nat.lt_of_lt_of_le hgj2 HB23.out.size; have hc31 : w3.cell? ⟨gj, 1, none⟩ = some (.pointer (some ⟨gd, 0, none⟩)) := by rw [(HJ2.out.below HB23.out HJ2.out.lt).cell]; rfl
    have HSN : Hid (so.n = (xa5 rs).length ∧ so.n ≤ 9000) := hZ (by have h1 := (xgg HG.out).2; have h2 := HSO.out.len; omega); have HSM : Hid (so.n ≤ 1099511627776 ∧ so.n ≤ 4294967295) := hZ (by have := HSN.out.2; omega); go_upto_region 11 with fail; refine Xf0 ?_; refine xaa rfl _ (xax sc85 HL _ rfl _ rfl _ hgj3 hc31) ?_; refine X4z ?_; intro K hK; refine Xeu ?_; (with_reducible refine (dk_rootH ((HD2.out.below HB23.out).below HL.below)).mono ?_); refine X4a ?_; clear hK K; intro w HL; refine xai zr23 rfl rfl HL ?_; clear HL; intro g8 w HL; refine X5m ?_; refine X4c ?_; clear HL; intro w HL; have CD : ∀ v, Below w3.heap.size w3 v → Hid (Calls Tryz.prog 76 #[so.v, t'.dg.a] v fun e w' => e = .returned (sumD (xa5 rs) t'.dg).a ∧ Below v.heap.size v w') := fun v hv => hZ (xj7 so.A so.n so.c (xa5 rs) t'.dg (HSO.out.below hv) HSM.out.1)
    go_upto_region 12 with fail; refine X11 ?_; refine Xev ?_; refine X4z ?_; intro K hK; refine xac cf76 rfl _ rfl ?_; refine X1y ?_; (with_reducible refine ((CD _ HL.below).out).mono ?_); refine X43 ?_; intro w hb HL; clear hb CD; refine X5i ?_; clear hK K; refine xai zr23 rfl rfl HL ?_; clear HL; intro g10 w HL; refine X5m ?_; refine X35 ?_; clear HL; intro w HL; go_upto_region 13 with fail; refine X11 ?_; refine xaa rfl _ (xav Tryz.underlying25 _ rfl so so.n rfl rfl) ?_; refine X4z ?_; intro K hK; refine xac cf77 rfl _ rfl ?_; refine X1y ?_; (with_reducible refine (put32_ok so.n HSM.out.2 _).mono ?_); rintro e w ⟨v4, rfl, hov, hb⟩; obtain ⟨sz, rfl, hyl, hyc, hym, hyr, _⟩ := xfq hov; have HSZ : Hid (Tx w sz.A sz.n sz.c (be 4 so.n)) := hZ ⟨hyl, hyc, hym, hyr, fun _ _ h => h⟩; replace HL := HL.next hb; have HB34 := hZ HL.below
    have HG10 := hZ (HL.blk (.head _)); clear HL hov hb hyl hyc hym hyr; have HL := Loc.start w; obtain ⟨w4, rfl⟩ := eW w; refine X7d ?_; clear hK K; have HB24 := hZ (HB23.out.trans (HB34.out.mono HB23.out.size)); have HJ4 := hZ (HJ2.out.below HB24.out HJ2.out.lt); have HD4 := hZ ((HH.out.dk.fr HS12.out.fr HH.out.ys).below HB24.out); have HY4 : Hid (∀ k, Y k → k < w4.heap.size) := hZ (fun k hk => by have h1 := HH.out.yl k hk; have h2 := HS12.out.fr.size; have h3 := HB24.out.size; omega); have hgj4 : Old w4 gj ∧ ¬ Y gj := ⟨HJ4.out.lt, HH.out.yj⟩; have hc40 : w4.cell? ⟨gj, 0, none⟩ = some (.pointer (some ⟨gk, 0, none⟩)) := by rw [HJ4.out.cell]; rfl
    have HX := HL.drew; have HL0 := HL.less (D' := fun k => Old w4 k ∧ ¬ Y k) (fun k hk => hk.1); clear HL; have HL := HL0; clear HL0; go_upto_region 14 with fail; refine wp_nop ?_; refine xm3 (Loc.P HL) [] [7, 8, 9] [0, 1, 2, 3, 4, 5, 6, 7, 8, 9, 10] 0 mixed (by kernel_rfl) (fun _ _ _ _ _ hh => absurd rfl (hh.1 _)) ?_; refine X3e ?_; intro HL; refine xab rfl rfl HL (fun W hW => xaf xqj _ rfl _ rfl) ?_; refine X5 ?_; refine xab rfl rfl HL (fun W hW => xax sc65 hW _ rfl _ rfl _ hgj4 hc40) ?_; refine X6s ?_; refine xab rfl rfl HL (fun W hW => xcl ia25 _ rfl g10 0 rfl) ?_; refine Xf ?_; intro K hK
    refine xcx sl50 el25 3 _ rfl HX [sz.v, so.v, .slice (some ⟨g10, 0, none⟩) 32 32] (fun u hu => by
      simp only [List.mem_cons, List.not_mem_nil, or_false] at hu
      rcases hu with rfl | rfl | rfl <;> rfl) rfl (by decide) (by decide) (by simp [Act.eval, Sv.v]) ?_
    clear HX HL; intro g63 w HX; have HL := (HX.less (D' := fun k => Old w4 k ∧ ¬ Y k) (fun k hk => hk.1)).drop [] (List.nil_sublist _); refine X3w ?_; clear hK K
    have HA : Hid (AllRd w [sz.v, so.v, .slice (some ⟨g10, 0, none⟩) 32 32] [be 4 so.n, xa5 rs, (sumD (xa5 rs) t'.dg).l]) := hZ (by
      refine AllRd.cons ⟨sz.A, sz.c, by rw [HSZ.out.len]; rfl, by rw [HSZ.out.len]; exact HSZ.out.cap, (HSZ.out.below HX.below).rd⟩ (AllRd.cons ⟨so.A, so.c, by rw [HSO.out.len]; rfl, by rw [HSO.out.len]; exact HSO.out.cap, ((HSO.out.below HB34.out).below HX.below).rd⟩ (AllRd.cons ⟨some ⟨g10, 0, none⟩, 32, by rw [D32.h], by rw [D32.h]; exact Nat.le_refl _, Rd.of_blk0 (es := []) (by rw [List.append_nil]; exact HG10.out.below HX.below HG10.out.lt)⟩ (AllRd.nil _))))
    have HJN : Hid (Calls Tryz.prog 79 #[.slice (some ⟨g63, 0, none⟩) 3 3] w fun e w' => ∃ v, e = .returned v ∧ OwnB w' w.heap.size 5 v (recO (rs, t')) ∧ Below w.heap.size w w') := hZ (by
      have hj := xjf (some ⟨g63, 0, none⟩) 3 3 _ _ w rfl (Rd.of_blk0 (es := []) (by rw [List.append_nil]; exact HX.blk (.head _))) HA.out (by simp) (by
        have h1 := HSN.out; have h2 := (xgg HG.out).2; simp only [List.flatten_cons, List.flatten_nil, qu, qp, xaq, D32.h]
        omega)
      have he : (([be 4 so.n, xa5 rs, (sumD (xa5 rs) t'.dg).l] : List (List UInt8))).flatten = recO (rs, t') := by
        unfold recO recB; rw [← HSN.out.1]; simp
      rwa [he] at hj)
    clear HA; refine Xe ?_; intro K hK; refine xac cf79 rfl _ rfl ?_; refine X1y ?_; (with_reducible refine (HJN.out).mono ?_); rintro e w ⟨vr, rfl, hov, hb⟩; obtain ⟨sr, rfl, hyl, hyc, hym, hyr, hyf⟩ := xfq hov; have HSR : Hid (Tx w sr.A sr.n sr.c (recO (rs, t'))) := hZ ⟨hyl, hyc, hym, hyr, fun _ _ h => h⟩
    have HSF : Hid (∀ ad, sr.A = some ad → Old w ad.block ∧ ¬ Y ad.block) := hZ (fun ad e => by
      have h1 := hov.lt ad.block (by rw [Sv.v, e]; rfl); refine ⟨h1.2, fun hy => ?_⟩; have h2 := HY4.out _ hy; have h3 := HX.below.size
      omega)
    have HB45 := hZ (HX.below.trans (hb.mono HX.below.size)); replace HL := HL.next hb; clear HX hov hb hyl hyc hym hyr hyf HJN; have HAP : Hid (Calls Tryz.prog 78 #[.pointer (some ⟨gk, 0, none⟩), sr.v] w fun e w' => ∃ b' Y', e = .returned (.int .i64 0) ∧ DskP Y' w' gk b' (l ++ recO (rs, t')) s ∧ Stp Y w Y' w' ∧ ∀ k, Y' k → Y k ∨ k < w'.heap.size) := hZ (xp4 (HD4.out.below HB45.out) sr.A sr.n sr.c (recO (rs, t')) HSR.out HSF.out (by have h1 := HSR.out.len; rw [xfy] at h1; have h2 := HSN.out; have h3 := HDL.out; have h4 : (xa5 (rs, t').1).length = so.n := h2.1.symm; omega)); refine X70 ?_; clear hK K; intro K hK; refine xac cf78 rfl _ rfl ?_; refine X1y ?_; (with_reducible refine (HAP.out).mono ?_); rintro e w ⟨b', Y', rfl, hD5, hS5, hY5⟩; have HD5 := hZ hD5; have HS5 := hZ ((Stp.of_below HB45.out).trans hS5); have HY5 := hZ hY5
    replace HL := HL.frame hS5.fr (fun k hk hd => hd.2 hk) (fun y hy => by cases hy); clear hD5 hS5 hY5 HB45 HSR HSF; refine X58 ?_; clear hK K; refine X4p ?_; refine ⟨fun c e => (by cases e), ?_⟩; clear HL; have HL := Loc.start w; obtain ⟨w5, rfl⟩ := eW w; go_upto_region 15 with fail; refine Xcn ?_; have HJ5 := hZ (HJ4.out.fr HS5.out.fr HH.out.yj); have HL1 := HL.adopt (· = gj) [(gj, 151, jrC gk gd n)] (fun x hx => by rw [List.mem_singleton.1 hx]; exact ⟨rfl, HJ5.out⟩) (by simp); simp only [qn] at HL1; clear HL; have HL := HL1; clear HL1; have HI : Hid ((n : Int) + 1 = ((n + 1 : Nat) : Int)) := hZ (by omega); go_upto_region 18 with fail; refine X13 ?_; refine Xey ?_; refine Xe3 ?_; refine X5 ?_; refine X9g ?_; refine X15 ?_; refine Xey ?_; refine X5 ?_
    refine xa1 sc3 rfl _ _ rfl HL 0 gj 2 151 _ (jrC gk gd (n + 1)) (.int .i64 ((n + 1 : Nat) : Int)) rfl rfl rfl rfl (show 2 < 3 by decide) rfl ?_; clear HL; intro w HL; simp only [qg] at HL; refine X16 ?_; go_upto_region 19 with fail; refine X1j ?_; go_wp2_with fail; refine Xa ?_; have HF6 : Hid (Fr (· = gj) w5 w) := hZ ⟨HL.fr.os, HL.fr.tape, HL.fr.output, HL.fr.size, fun k hk hn => HL.fr.block k hk (fun n => n ⟨hk, hn⟩)⟩; have HJ6 := hZ (HL.blk (.head _)); clear HL; refine Xf7 ?_; refine (xon (wri_held HH.out HS12.out HB24.out HS5.out HF6.out HD2.out) .returning).mono ?_; rintro e mm w7 ⟨rfl, S3, rfl, hD7, hS7⟩; obtain ⟨q1, q2⟩ := xou HH.out HS12.out HD2.out.lt HB24.out HS5.out HY5.out HD5.out HF6.out HJ6.out hS7 hD7; exact ⟨_, results_tmp rfl _ _ _, .inr ⟨HR.out, rfl, t', Y', S3, b', q1, q2, HSP.out⟩⟩
  · have HNR := hZ hr
    obtain ⟨er, her⟩ : ∃ er, xcj rs = er := ⟨_, rfl⟩; have HER := hZ her; have k8 : (er == 0) = !true := by rw [← her]; simpa using hr
    clear hr her
    go_enter_defers Tryz.func20, Tryz.ntmps20
    go_upto_region 0 with fail; refine X1j ?_; go_upto_region 1 with fail; refine X1x ?_; intro K hK; refine Xex ?_; refine X1y ?_; refine Xez ?_; rintro e w ⟨rfl, rfl⟩; refine X22 ?_; clear hK K; go_upto_region 3 with fail; refine Xf0 ?_; refine Xf1 ?_; refine X4z ?_; intro K hK; refine xac cf72 rfl _ rfl ?_; refine X1y ?_; (with_reducible refine ((CS _ HL.below).out).mono ?_); rintro e w ⟨S1, rfl, hD, hS⟩; have HD1 := hZ hD; have HS1 := hZ ((Stp.of_below HL.below).trans hS); clear HL hD hS; have HL := Loc.start w; obtain ⟨w1, rfl⟩ := eW w; refine X2n ?_; clear hK K; refine Xf2 ?_; intro HJ1 hgj1; have hc11 : w1.cell? ⟨gj, 1, none⟩ = some (.pointer (some ⟨gd, 0, none⟩)) := by rw [HJ1.out.cell]; rfl
    go_upto_region 4 with fail; refine Xcn ?_; go_upto_region 6 with fail; refine Xf0 ?_; refine Xf3 ?_; refine X4z ?_; intro K hK; refine Xf4 ?_; refine hK _ _ ?_; clear hK K; refine X16 ?_; refine Xf5 ?_; intro HF1; refine Xf6 ?_; intro HW1
    have CB : ∀ v, Below w1.heap.size w1 v → Hid (Calls Tryz.prog 74 #[.pointer (some ⟨gd, 0, none⟩), .slice A m c] v fun e w' => e = .returned (.int .i64 er) ∧ Below v.heap.size v w') := fun v hv => hZ ((xlg (HD1.out.below hv) A m c rs (HW1.out.below hv) (by omega) HBG.out hts hfit).mono fun e w' hx => by
      rcases hx with ⟨_, h2, h3⟩ | ⟨h1, _⟩
      · exact ⟨by rw [h2, HER.out], h3⟩
      · exact absurd h1 HNR.out)
    go_upto_region 7 with fail; refine Xf0 ?_; refine Xf3 ?_; refine X42 ?_; intro K hK; refine xac cf74 rfl _ rfl ?_; refine X1y ?_; (with_reducible refine ((CB _ HL.below).out).mono ?_); refine X43 ?_; intro w hb HL; clear hb CB; refine X2n ?_; clear hK K; go_upto_region 8 with fail; refine X11 ?_; refine xaa rfl _ (xa4 (b := true) _ _ rfl _ _ rfl rfl k8) ?_; refine X21 ?_; go_upto_region 9 with fail; refine X7j ?_; go_wp2_with fail; refine Xa ?_; have HB12 := hZ HL.below; clear HL; refine Xf7 ?_; refine (xon (HD1.out.below HB12.out) .returning).mono ?_; rintro e mm w7 ⟨rfl, S3, rfl, hD7, hS7⟩; have hy := HH.out.yl; obtain ⟨q1, q2⟩ := xou (l' := l) (b' := b) HH.out HS1.out HD1.out.lt HB12.out (Stp.refl Y _) (fun k hk => .inl hk) ((HH.out.dk.fr HS1.out.fr HH.out.ys).below HB12.out) (Fr.refl _ _) (HJ1.out.below HB12.out HJ1.out.lt) hS7 hD7
    exact ⟨_, results_tmp rfl _ _ _, .inl ⟨HNR.out, by rw [HER.out]; rfl, S3, q1, q2⟩⟩
end
structure Stg (w0 wb : World) (D1 X : Nat → Prop) : Prop where
  bel : Below w0.heap.size w0 wb
  dx : ∀ k, X k → D1 k
  d0 : ∀ k, k < w0.heap.size → D1 k
  x0 : ∀ k, X k → w0.heap.size ≤ k
section
variable {w0 wb w w' : World} {D1 X X' : Nat → Prop} {L : List (Nat × Nat × List Value)}
theorem Stg.belw (h : Stg w0 wb D1 X) (H : Loc wb D1 L w) : Below w0.heap.size w0 w :=
  Fr.to_below (S := fun k => w0.heap.size ≤ k) ((Fr.of_below h.bel).trans (S := fun k => w0.heap.size ≤ k) ⟨H.fr.os, H.fr.tape, H.fr.output, H.fr.size, fun k hk hn => H.fr.block k hk (fun n => n (h.d0 k (by omega)))⟩) (fun k hk hn => absurd hn (by omega))
theorem Stg.next (h : Stg w0 wb D1 X) (H : Loc wb D1 L w) (hS : Stp X w X' w') (hlt : ∀ k, X' k → k < w'.heap.size) : Stg w0 w' (Rest w' L) X' ∧ Loc w' (Rest w' L) L w' := by
  have hb := h.belw H; have hn : ∀ x ∈ L, ¬ X x.1 := fun x hx hk => (H.own x hx).1 (h.dx _ hk)
  have hlo : ∀ x ∈ L, w0.heap.size ≤ x.1 := fun x hx => Nat.le_of_not_lt fun h2 => (H.own x hx).1 (h.d0 _ h2)
  have hsz := hb.size; have hsz2 := hS.fr.size; refine ⟨⟨xif hb hS h.x0, fun k hk => ⟨hlt k hk, fun x hx e => ?_⟩, fun k hk => ⟨by omega, fun x hx e => by have := hlo x hx; omega⟩, fun k hk => ?_⟩, H.redo hS.fr hn⟩
  · subst e
    rcases hS.new _ hk with h1 | h1
    · exact hn x hx h1
    · have := (H.own x hx).2.lt; omega
  · rcases hS.new _ hk with h1 | h1
    · exact h.x0 k h1
    · omega
theorem Stg.begin (hb : Below w0.heap.size w0 w) (hx : ∀ k, X k → k < w.heap.size) (h0 : ∀ k, X k → w0.heap.size ≤ k) : Stg w0 w (Old w) X :=
  ⟨hb, hx, fun k hk => Nat.lt_of_lt_of_le hk hb.size, h0⟩
end
section
variable {Y S : Nat → Prop} {w0 wb w w' : World} {gj gk gd : Nat} {b : Sv} {l : List UInt8} {s n u : Nat} {t : Tre} {D1 : Nat → Prop} {L : List (Nat × Nat × List Value)}
theorem JrP.lt (h : JrP Y S w gj gk gd b l s t n u) : ∀ k, jA Y S gj k → k < w.heap.size := by
  rintro k (hk | hk | rfl)
  · exact h.yl k hk
  · exact h.dc.lt k hk
  · exact h.jb.lt
theorem JrP.at_ (h : JrP Y S wb gj gk gd b l s t n u) (hst : Stg w0 wb D1 (jA Y S gj)) (H : Loc wb D1 L w) : JrP Y S w gj gk gd b l s t n u :=
  h.fr H.fr (fun k hk hn => hn (hst.dx k hk))
theorem JrP.more (h : JrP Y S w gj gk gd b l s t n u) {u' : Nat} (hu : u ≤ u') : JrP Y S w gj gk gd b l s t n u' := ⟨h.jb, h.dk, h.dc.more hu, h.ys, h.yj, h.sj, h.yl⟩
theorem Stp.disk {gj gk : Nat} (hY : Y gk) (hf : Fr (· = gk) w w') : Stp (jA Y S gj) w (jA Y S gj) w' := Stp.of_fr hf (fun k hk => by rw [hk]; exact .inl hY)
end
def xd0 (h : Hs) (m : Nat) : List Value := ((List.range m).map fun j => (trH h j).dg).flatMap D32.c
def xe1 (h : Hs) (m : Nat) : List Value := (List.range m).map fun j => .int .i64 (endH h j : Int)
theorem xgh (h : Hs) (m i : Nat) (hi : i < m) : (xe1 h m)[i]? = some (.int .i64 (endH h i : Int)) := by
  unfold xe1; rw [List.getElem?_map, List.getElem?_range hi]; rfl
theorem xta (h : Hs) (m i : Nat) (hi : i < m) : ((xd0 h m).drop (i * 32)).take 32 = (trH h i).dg.c := by
  unfold xd0; have h3 := xeo (f := D32.c) D32.cl ((List.range m).map fun j => (trH h j).dg) [] i (by simpa using hi); rw [List.append_nil] at h3; rw [h3, List.getElem_map, List.getElem_range]
theorem xow (h : Hs) (x : List RE × Tre) {j : Nat} (hj : j ≤ h.length) : endH (h ++ [x]) j = endH h j := by
  unfold endH; rw [List.take_append_of_le_length hj]
theorem xox (h : Hs) (x : List RE × Tre) : xd0 (h ++ [x]) (h.length + 1 + 1) = xd0 h (h.length + 1) ++ x.2.dg.c := by
  unfold xd0; rw [List.range_succ, List.map_append, List.flatMap_append]; congr 1
  · congr 1
    refine List.map_congr_left fun j hj => ?_
    rw [xgv (by have := List.mem_range.1 hj; omega)]
  · rw [List.map_cons, List.map_nil, xhm]
    simp
theorem xp7 (h : Hs) (x : List RE × Tre) : xe1 (h ++ [x]) (h.length + 1 + 1) = xe1 h (h.length + 1) ++ [.int .i64 ((dskB (h ++ [x])).length : Int)] := by
  unfold xe1; rw [List.range_succ, List.map_append]; congr 1
  · refine List.map_congr_left fun j hj => ?_
    rw [xow h x (by have := List.mem_range.1 hj; omega)]
  · rw [List.map_cons, List.map_nil]
    have := xc6 (h ++ [x]); rw [List.length_append] at this; rw [show h.length + 1 = h.length + [x].length from rfl, this]
theorem xrf {E z g : Nat} {xs : List Value} (h : xs.length = z) : Gw E z [(g, E, xs)] ⟨some ⟨g, 0, none⟩, 1, 1⟩ 1 xs := by
  refine ⟨by omega, .inr ⟨g, 1, [], ?_, rfl, Nat.le_refl _, by unfold maxLen; omega, ?_⟩⟩
  · rw [List.append_nil]
  · rw [List.append_nil]; omega
theorem RawT.take {D : Nat → Prop} {w : World} {A : Option Addr} {n c : Nat} {rs : List RE} (h : RawT D w A n c rs) (m : Nat) (hm : m ≤ n) : RawT D w A m c (rs.take m) := by
  have hl := h.len; refine ⟨?_, by rw [List.length_take]; omega, by have := h.cap; omega, fun e he => h.kt e (List.mem_of_mem_take he), fun e he => h.vt e (List.mem_of_mem_take he), fun e he => h.dv e (List.mem_of_mem_take he)⟩; have h1 := h.rd.take (m * 3)
  have e : (((rs.take m).map RE.r).flatMap Rw.cells) = ((rs.map RE.r).flatMap Rw.cells).take (m * 3) := by
    rw [List.map_take]; have h2 : (rs.map RE.r).flatMap Rw.cells = ((rs.map RE.r).take m).flatMap Rw.cells ++ ((rs.map RE.r).drop m).flatMap Rw.cells := by rw [← List.flatMap_append, List.take_append_drop]
    rw [h2, List.take_left']; rw [xdt Rw.len _ m (by rw [List.length_map]; omega)]
  rw [e]; exact h1
structure WrsT (w : World) (A : Option Addr) (n c : Nat) (xs : List (Sv × List RE)) : Prop where
  rd : Rd w A (xs.map fun x => x.1.v)
  len : xs.length = n
  cap : n ≤ c
  each : ∀ x ∈ xs, RawT (fun _ => False) w x.1.A x.1.n x.1.c x.2
  big : ∀ x ∈ xs, ∀ e ∈ x.2, e.k.length ≤ 140737488351232
theorem RawF.old {D X : Nat → Prop} {w0 : World} {A : Option Addr} {n c : Nat} {rs : List RE} (h : RawT D w0 A n c rs) (hx : ∀ k, X k → w0.heap.size ≤ k) : RawF X A rs :=
  ⟨fun hne ad e hk => by have h1 := h.rd.inside (xre hne) ad e; have h2 := hx _ hk; omega, fun e he => ⟨fun hne ad e2 hk => by have h1 := (h.kt e he).rd.inside (ne_bvs.2 hne) ad e2; have h2 := hx _ hk; omega,
    fun hne ad e2 hk => by have h1 := (h.vt e he).rd.inside (ne_bvs.2 hne) ad e2; have h2 := hx _ hk; omega⟩⟩
theorem cut_hist (h : Hs) (H : HsOk h) (q W : Nat) (hW : W ≤ h.length) (h1 : endH h W ≤ q) (h2 : W = h.length ∧ q = endH h W ∨ W < h.length ∧ q < endH h (W + 1)) :
    ∃ tail, (dskB h).take q = dskB (h.take W) ++ tail ∧ xis tail ∧ Torn tail ∧ tail.length ≤ 70036 := by
  have e0 : (dskB h).take q = dskB (h.take W) ++ (dskB (h.drop W)).take (q - endH h W) := by
    rw [xlm h W, List.take_append, List.take_of_length_le (by unfold endH at h1; exact h1)]; rfl
  refine ⟨_, e0, ?_⟩; rcases h2 with ⟨rfl, h2⟩ | ⟨hlt, h2⟩
  · rw [List.drop_length, dskB_nil, List.take_nil]
    exact ⟨none_rec.1, none_rec.2, Nat.zero_le _⟩
  · rw [xgf hlt] at h2
    have hg := (H.step W hlt).1; have hl := (xgg hg).2; have hr := xfy h[W]
    have e1 : (dskB (h.drop W)).take (q - endH h W) = (recO h[W]).take (q - endH h W) := by
      rw [xln hlt, List.take_append_of_le_length (by omega)]
    rw [e1]; have := xs7 h[W] hg (q - endH h W) (by omega); exact ⟨this.1, this.2, by rw [List.length_take]; omega⟩
theorem Stg.sub {w0 wb : World} {D1 X X' : Nat → Prop} (h : Stg w0 wb D1 X) (hs : ∀ k, X' k → X k) : Stg w0 wb D1 X' := ⟨h.bel, fun k hk => h.dx k (hs k hk), h.d0, fun k hk => h.x0 k (hs k hk)⟩
theorem xoy {X S2 : Nat → Prop} {w w' : World} {gk gj2 : Nat} (hX : X gk) (hS : ∀ k, S2 k → w.heap.size ≤ k) (hg : w.heap.size ≤ gj2) (hf : Fr (· = gk) w w') : Stp X w (fun k => X k ∨ S2 k ∨ k = gj2) w' :=
  ⟨fun k hk => by rcases hk with h | h | h
                  · exact .inl h
                  · exact .inr (hS k h)
                  · exact .inr (by omega), fun k hk => .inl hk, ⟨hf.os, hf.tape, hf.output, hf.size, fun k hk hn => hf.block k hk (fun e => hn (by rw [e]; exact hX))⟩⟩
theorem JrP.disk {Y S : Nat → Prop} {w w' : World} {gj gk gd : Nat} {b b' : Sv} {l l' : List UInt8} {s s' n u : Nat} {t : Tre} (h : JrP Y S w gj gk gd b l s t n u) (hf : Fr (· = gk) w w') (hd : DskP Y w' gk b' l' s') : JrP Y S w' gj gk gd b' l' s' t n u :=
  ⟨h.jb.fr hf (fun e => h.yj (by rw [e]; exact h.dk.2.1)), hd, h.dc.fr hf (fun k hk e => h.ys gk h.dk.2.1 (by rw [← e]; exact hk)), h.ys, h.yj, h.sj, fun k hk => Nat.lt_of_lt_of_le (h.yl k hk) hf.size⟩
theorem bd80_02 (x0 : Sv) (x2 : Sv) : Instr.fill (fun x => [(0, 1), (1, 1), (2, 1)].toArray[x]?) Rw.z.cells.toArray [(0, x0.v), (2, x2.v)] = some ((⟨x0, false, x2⟩ : Rw)).cells.toArray := by
  refine xaj (vs := [x0.v]) rfl rfl rfl (by rw [Rw.len]; decide) ?_; refine xaj (vs := [x2.v]) rfl rfl rfl (by simp [splice, Rw.z, Rw.cells]) ?_; rfl
def xdl (g gl : Nat) : RE := ⟨⟨⟨some ⟨g, 0, none⟩, 32, 32⟩, false, ⟨some ⟨gl, 0, none⟩, 1, 1⟩⟩, List.replicate 32 0, [122]⟩
theorem xoz (g gl : Nat) : xcj [xdl g gl] = 0 := by
  unfold xcj; rw [if_neg (by simp [badK, xdl]), if_neg (by simp [xcz, toE, xdl])]
theorem keyD_z : keyD (List.replicate 32 0) = D32.z := by
  unfold keyD; rw [dif_pos (by simp)]; rfl
theorem lastE_in {told t : Tre} {g gl : Nat} (h : SpA told ([xdl g gl].map toE) t) : (D32.z, [122]) ∈ t.ents := by
  refine (h.sp _ _).2 (.inl ?_)
  have e : pw (toE (xdl g gl)) = (D32.z, some [122]) := by
    unfold pw toE xdl; rw [keyD_z]; rfl
  rw [List.map_cons, List.map_nil, List.map_cons, List.map_nil, e]; simp [xce]
end Go.Proofs.YtkjjdgnkelchfaaGreat
namespace Go.Proofs.YtkjjdgnkelchfaaGreat
open Go Go.RowKit Go.ChangeShapes Go.WideShapes Go.ChangeAt
theorem i64_wf {z : Int} (h : (Lit.int .i64 z).wf = true) : -9223372036854775808 ≤ z ∧ z ≤ 9223372036854775807 := by
  simpa [Lit.wf, IntKind.min, IntKind.max, IntKind.signed, IntKind.bits] using h
instance : Inhabited RE := ⟨⟨Rw.z, [], []⟩⟩
instance : Inhabited (Sv × List RE) := ⟨⟨Sv.nil, []⟩⟩
section
variable {H : Type} {enc : TypeId × Value → H} {P : Program} {W : World} {base : Nat}
def WOk (P : Program) (t : TypeId) (d : DataW H) : Prop := ∀ n ∈ d.weights P t, n ≤ reachBytes
theorem wall {e : TypeId} : ∀ {l : List (DataW H)}, (∀ n ∈ DataW.weightsAll P e l, n ≤ reachBytes) → ∀ d ∈ l, WOk P e d
  | [], _, d, hd => by cases hd
  | x :: l, h, d, hd => by
    have h1 : ∀ n ∈ x.weights P e ++ DataW.weightsAll P e l, n ≤ reachBytes := by
      intro n hn; exact h n (by unfold DataW.weightsAll; exact hn)
    rcases List.mem_cons.1 hd with rfl | hd
    · exact fun n hn => h1 n (List.mem_append.2 (.inl hn))
    · exact wall (fun n hn => h1 n (List.mem_append.2 (.inr hn))) d hd
theorem xp8 {t e : TypeId} {es sp : List (DataW H)} (hu : P.underlying t = some (.slice e)) (h : WOk P t (.slice es sp)) : (es.length + sp.length) * P.bytesOf e ≤ reachBytes ∧ ∀ d ∈ es, WOk P e d := by
  have h1 : ∀ n ∈ (es.length + sp.length) * P.bytesOf e :: (DataW.weightsAll P e es ++ DataW.weightsAll P e sp), n ≤ reachBytes := by
    intro n hn; refine h n ?_; unfold DataW.weights; rw [hu]; exact hn
  exact ⟨h1 _ (.head _), wall fun n hn => h1 n (.tail _ (List.mem_append.2 (.inl hn)))⟩
theorem wstruct3 {t : TypeId} {f0 f1 f2 : Field} {x0 x1 x2 : DataW H} (hu : P.underlying t = some (.struct #[f0, f1, f2])) (h : WOk P t (.agg [x0, x1, x2])) : WOk P f0.type x0 ∧ WOk P f2.type x2 := by
  have h1 : ∀ n ∈ x0.weights P f0.type ++ (x1.weights P f1.type ++ (x2.weights P f2.type ++ [])), n ≤ reachBytes := by
    intro n hn; refine h n ?_; unfold DataW.weights; rw [hu]; simp only [qk, ql]; simp only [DataW.weightsEach]; exact hn
  exact ⟨fun n hn => h1 n (List.mem_append.2 (.inl hn)), fun n hn => h1 n (by simp [hn])⟩
theorem xo0 {T E S : TypeId} (B : BT P T E S) (hc : P.cellsOf E = 1) (hb : P.bytesOf E = 1) {fuel : Nat} {cs : List Value} {x : DataW H × List MemPlace} (hf : DataW.trod enc P W 0 (fun _ => true) true fuel T cs = some x) (hw : WOk P T x.1) :
    ∃ (s : Sv) (l : List UInt8), cs = [s.v] ∧ Tx W s.A s.n s.c l ∧ s.c ≤ 140737488351232 := by
  rcases open_ints B.t B.e hc hf with ⟨rfl, hx⟩ | ⟨a, n, c, zs, rfl, _, hl, hm, hz, hx, hcell, hwz⟩
  · exact ⟨Sv.nil, [], rfl, ⟨rfl, Nat.le_refl _, by show 0 ≤ maxLen; omega, Rd.nil _ _, fun _ _ h => h⟩, by show 0 ≤ _; omega⟩
  · simp only [if_true] at hz
    have hsz : c ≤ reachBytes := by
      rw [hx] at hw; have h1 := (xp8 B.t hw).1; rw [hb] at h1; simp [lits] at h1; omega
    refine ⟨⟨some a, n, c⟩, (zs.take n).map fun z => UInt8.ofNat z.toNat, rfl, ⟨by simp; omega, hl, hm, fun _ => ⟨a, rfl, fun j u hu => ?_⟩, fun _ _ h => h⟩, by simpa [reachBytes] using hsz⟩
    have hj : j < n := by
      have := (List.getElem?_eq_some_iff.1 hu).1; simp [bvs] at this; omega
    have hjz : j < zs.length := by omega
    rw [hcell j hjz]; simp only [bvs, List.map_map, List.getElem?_map, List.getElem?_take_of_lt hj, List.getElem?_eq_getElem hjz, Option.map_some, Function.comp] at hu; rw [← hu, ← xm0 (hwz _ (List.getElem_mem hjz))]; simp [hjz]
theorem rows_rd {α : Type} [Inhabited α] {g : α → List Value} {z : Nat} (hz : ∀ x, (g x).length = z) (hz0 : 0 < z) {a : Addr} {n : Nat} (f : Nat → α) (h : ∀ i, i < n → W.cells? 0 (a.add (i * z)) z = some (g (f i))) : Rd W (some a) (((List.range n).map f).flatMap g) := by
  refine fun _ => ⟨a, rfl, fun j u hu => ?_⟩
  have hj : j < n * z := by
    have h1 := (List.getElem?_eq_some_iff.1 hu).1; rw [xcc hz] at h1; simpa using h1
  have hq : j / z < n := Nat.div_lt_of_lt_mul (by rw [Nat.mul_comm]; exact hj); have hjz : j / z * z + j % z = j := Nat.div_add_mod' j z; have h2 := fm_get hz ((List.range n).map f) [] (j / z) (j % z) (by simpa using hq) (Nat.mod_lt _ hz0); rw [List.append_nil, hjz, hu, List.getElem_map, List.getElem_range] at h2; have h1 := h (j / z) hq; obtain ⟨_, _, h3⟩ := World.cells?_some h1; have h4 := h3 (j % z) (Nat.mod_lt _ hz0); rw [Deep.add_add, hjz] at h4; rw [h4]; exact h2.symm
end
section
variable {H : Type} {enc : TypeId × Value → H} {P : Program} {W : World} {base : Nat}
def ReOk (W : World) (e : RE) : Prop := Tx W e.r.key.A e.r.key.n e.r.key.c e.k ∧ Tx W e.r.val.A e.r.val.n e.r.val.c e.v ∧ e.k.length ≤ 140737488351232
theorem raw_at {E T Q S : TypeId} {f0 f1 f2 : Field} (B : BT P T Q S) (hc : P.cellsOf Q = 1) (hb : P.bytesOf Q = 1) (he : P.underlying E = some (.struct #[f0, f1, f2])) (o0 : f0.offset = 0) (o1 : f1.offset = 1) (o2 : f2.offset = 2)
    (t0 : f0.type = T) (t2 : f2.type = T) (u1 : P.underlying f1.type = some .bool) (cT : P.cellsOf T = 1) (c1 : P.cellsOf f1.type = 1)
    {fuel : Nat} {cs : List Value} {x : DataW H × List MemPlace} (hl : cs.length = 3) (hf : DataW.trod enc P W 0 (fun _ => true) true fuel E cs = some x) (hw : WOk P E x.1) : ∃ e : RE, cs = e.r.cells ∧ ReOk W e := by
  obtain ⟨xs, n, _, rfl, _, hlen, hff⟩ := DataW.trod_struct he hf
  match xs, hlen with
  | [y0, y1, y2], _ =>
    have hws := wstruct3 he hw; have h0 := hff 0 f0 rfl; have h1 := hff 1 f1 rfl; have h2 := hff 2 f2 rfl; simp only [qd, qc] at h0 h1 h2; rw [o0, t0, cT] at h0; rw [o1, c1] at h1; rw [o2, t2, cT] at h2; rw [t0, t2] at hws; obtain ⟨sk, k, ek, hk, hkb⟩ := xo0 B hc hb h0 hws.1; obtain ⟨g, eg, _⟩ := DataW.trod_bool u1 h1; obtain ⟨sv, v, ev, hv, _⟩ := xo0 B hc hb h2 hws.2; refine ⟨⟨⟨sk, g, sv⟩, k, v⟩, ?_, hk, hv, ?_⟩
    · match cs, hl with
      | [a0, a1, a2], _ =>
        simp only [List.drop_zero, List.drop_succ_cons, List.take_succ_cons, List.take_zero, List.cons.injEq, and_true] at ek eg ev; rw [ek, eg, ev]; rfl
    · have h3 := hk.len
      have h4 := hk.cap; show k.length ≤ _; omega
theorem raws_at {R E T Q S : TypeId} {f0 f1 f2 : Field} (hR : P.underlying R = some (.slice E)) (cE : P.cellsOf E = 3) (B : BT P T Q S) (hc : P.cellsOf Q = 1) (hb : P.bytesOf Q = 1) (he : P.underlying E = some (.struct #[f0, f1, f2])) (o0 : f0.offset = 0) (o1 : f1.offset = 1) (o2 : f2.offset = 2)
    (t0 : f0.type = T) (t2 : f2.type = T) (u1 : P.underlying f1.type = some .bool) (cT : P.cellsOf T = 1) (c1 : P.cellsOf f1.type = 1)
    {fuel : Nat} {cs : List Value} {x : DataW H × List MemPlace} (hf : DataW.trod enc P W 0 (fun _ => true) true fuel R cs = some x) (hw : WOk P R x.1) : ∃ y : Sv × List RE, cs = [y.1.v] ∧ RawT (fun _ => False) W y.1.A y.1.n y.1.c y.2 ∧ ∀ e ∈ y.2, e.k.length ≤ 140737488351232 := by
  rcases Deep.open_slice hR hf with ⟨rfl, hx⟩ | ⟨a, n, c, m, k, D, Pl, rfl, _, hl, hm, hmm, hx, hi⟩
  · exact ⟨(Sv.nil, []), rfl, ⟨Rd.nil _ _, rfl, Nat.le_refl _, fun e he => (by cases he), fun e he => (by cases he), fun e he => (by cases he)⟩, fun e he => by cases he⟩
  · simp only [if_true] at hmm
    subst m; rw [cE] at hi
    have hwE : ∀ i, i < n → WOk P E (D i) := fun i hin => by
      rw [hx] at hw; exact (xp8 hR hw).2 _ (List.mem_map.2 ⟨i, List.mem_range.2 hin, rfl⟩)
    obtain ⟨f, hfn⟩ := Deep.choose_lt (p := fun i (e : RE) => W.cells? 0 (a.add (i * 3)) 3 = some e.r.cells ∧ ReOk W e) (n := n) (fun i hin => by
      obtain ⟨cs', h1, h2⟩ := hi i (by omega); obtain ⟨_, hlen, _⟩ := World.cells?_some h1; obtain ⟨e, rfl, h3⟩ := raw_at B hc hb he o0 o1 o2 t0 t2 u1 cT c1 hlen h2 (hwE i hin)
      exact ⟨e, h1, h3⟩)
    have hin : ∀ e ∈ (List.range n).map f, ReOk W e := fun e he => by
      obtain ⟨i, hi', rfl⟩ := List.mem_map.1 he; exact (hfn i (List.mem_range.1 hi')).2
    refine ⟨(⟨some a, n, c⟩, (List.range n).map f), rfl, ⟨?_, by simp, hl, fun e he => (hin e he).1, fun e he => (hin e he).2.1, fun e he hne ad ea hk => hk.elim⟩, fun e he => (hin e he).2.2⟩; have := rows_rd (W := W) (g := fun e : RE => e.r.cells) (z := 3) (fun e => Rw.len e.r) (by decide) f (fun i hin => (hfn i hin).1); rw [List.flatMap_map]; exact this
theorem open_wrs {U R E T Q S : TypeId} {f0 f1 f2 : Field} (hU : P.underlying U = some (.slice R)) (cR : P.cellsOf R = 1) (hR : P.underlying R = some (.slice E)) (cE : P.cellsOf E = 3) (B : BT P T Q S) (hc : P.cellsOf Q = 1) (hb : P.bytesOf Q = 1) (bR : P.bytesOf R = 24) (he : P.underlying E = some (.struct #[f0, f1, f2])) (o0 : f0.offset = 0) (o1 : f1.offset = 1) (o2 : f2.offset = 2)
    (t0 : f0.type = T) (t2 : f2.type = T) (u1 : P.underlying f1.type = some .bool) (cT : P.cellsOf T = 1) (c1 : P.cellsOf f1.type = 1)
    {v : Value} {d : DataW H} {p : List MemPlace} (hv : Value.okWide P W .any base U v) (h : DataW.Trod enc P W 0 (fun _ => true) true U v d p) (hw : WOk P U d) : ∃ A n c xs, v = .slice A n c ∧ WrsT W A n c xs ∧ n ≤ 140737488351232 := by
  obtain ⟨A, n, c, rfl⟩ := okWide_slice hU hv; obtain ⟨fuel, hf⟩ := h; rcases Deep.open_slice1 hU cR hf with ⟨hcs, hx⟩ | ⟨a, len, cap, m, k, V, D, Pl, hcs, _, hl, hm, hmm, hx, hi⟩
  · simp [Value.cells] at hcs
    obtain ⟨rfl, rfl, rfl⟩ := hcs; exact ⟨none, 0, 0, [], rfl, ⟨Rd.nil _ _, rfl, Nat.le_refl _, fun x hx => (by cases hx), fun x hx => (by cases hx)⟩, by omega⟩
  · simp [Value.cells] at hcs
    obtain ⟨rfl, rfl, rfl⟩ := hcs; simp only [if_true] at hmm; subst m; have hd : d = .slice ((List.range n).map D) ((List.range (c - n)).map fun j => D (n + j)) := congrArg Prod.fst hx; have hws := xp8 hU (by rw [hd] at hw; exact hw)
    obtain ⟨f, hfn⟩ := Deep.choose_lt (p := fun i (y : Sv × List RE) => W.cell? (a.add i) = some y.1.v ∧ RawT (fun _ => False) W y.1.A y.1.n y.1.c y.2 ∧ ∀ e ∈ y.2, e.k.length ≤ 140737488351232) (n := n) (fun i hin => by
      obtain ⟨h1, h2⟩ := hi i (by omega); obtain ⟨y, ey, h3, h4⟩ := raws_at hR cE B hc hb he o0 o1 o2 t0 t2 u1 cT c1 h2 (hws.2 _ (List.mem_map.2 ⟨i, List.mem_range.2 hin, rfl⟩)); simp only [List.cons.injEq, and_true] at ey
      exact ⟨y, by rw [h1, ey], h3, h4⟩)
    have hin : ∀ y ∈ (List.range n).map f, RawT (fun _ => False) W y.1.A y.1.n y.1.c y.2 ∧ ∀ e ∈ y.2, e.k.length ≤ 140737488351232 := fun y hy => by
      obtain ⟨i, hi', rfl⟩ := List.mem_map.1 hy; exact (hfn i (List.mem_range.1 hi')).2
    refine ⟨some a, n, c, (List.range n).map f, rfl, ⟨fun _ => ⟨a, rfl, fun j u hu => ?_⟩, by simp, hl, fun y hy => (hin y hy).1, fun y hy => (hin y hy).2⟩, ?_⟩
    · have hj : j < n := by
        have := (List.getElem?_eq_some_iff.1 hu).1; simpa using this
      rw [(hfn j hj).1]; simp [hj] at hu; rw [← hu]
    · have h1 := hws.1
      rw [bR] at h1; simp only [List.length_map, List.length_range, reachBytes] at h1; omega
end
end Go.Proofs.YtkjjdgnkelchfaaGreat
namespace Go.Proofs.YtkjjdgnkelchfaaGreat
open Go Go.RowKit
section
variable {D : Nat → Prop} {w w' : World} {gd gs g : Nat} {σ : Sb} {vs vf : Sv} {nm : Value} {root : Int}
theorem xks {P : Program} {T E S : TypeId} {w : World} {o : Oper} {a : Act} {K : Act → World → Prop} {Q : Exit → Act → World → Prop} (B : BT P T E S) (l c : Operand) (ho : o.op = Op.makeSlice T l c) (kl kc : IntKind) (n m : Nat) (hl : a.eval l = .int kl n) (hc : a.eval c = .int kc m)
    (hnc : n ≤ m) (hm : m ≤ 281474976710656)
    (h : K (a.put o.dst (.slice (some ⟨w.heap.size, 0, none⟩) n m)) (w.alloc (.cells (bvs (List.replicate m 0)).toArray E))) : o.wp P a w K Q := by
  have hr := xec (w := w) B kl kc n m hnc hm; unfold Oper.wp; simp [execOp, ho, hl, hc, hr, Result.andThen]; exact h
theorem xrg (u : World) (Z : List Value) : Blk ((u.alloc (.cells Z.toArray 5)).alloc (.cells Z.toArray 5)) u.heap.size 5 Z ∧ Blk ((u.alloc (.cells Z.toArray 5)).alloc (.cells Z.toArray 5)) (u.alloc (.cells Z.toArray 5)).heap.size 5 Z ∧ u.heap.size ≠ (u.alloc (.cells Z.toArray 5)).heap.size ∧ u.heap.size ≤ (u.alloc (.cells Z.toArray 5)).heap.size ∧ Below u.heap.size u ((u.alloc (.cells Z.toArray 5)).alloc (.cells Z.toArray 5)) :=
  ⟨(Blk.new u 5 Z).alloc _, Blk.new _ 5 Z, by simp, by simp, ((Below.refl _ _).alloc (Nat.le_refl _) _).alloc (by simp) _⟩
theorem xig (u : World) (l : List UInt8) (m k : Nat) (cs : Array Value) (hc : cs = (bvs l).toArray) : Rd (u.alloc (.cells cs 5 (m, k))) (some ⟨u.heap.size, 0, none⟩) (bvs l) := by
  subst hc; intro _; refine ⟨_, rfl, ?_⟩; intro i v hv; rw [xew, Nat.zero_add]
  have h : (u.alloc (.cells (bvs l).toArray 5 (m, k))).heap[u.heap.size]? = some (.cells (bvs l).toArray 5 (m, k)) := by
    show (u.heap.push _)[u.heap.size]? = _; simp
  unfold World.cell?; simp only [h]; simpa using hv
theorem xgw {P : Program} {w : World} {a : Act} {o : Oper} {K : Act → World → Prop} {Q : Exit → Act → World → Prop} (t e : TypeId) (C : Array Value) (n c : Nat) (ht : P.underlying t = some (.slice e)) (he : P.underlying e = some (.int .u8)) (x : Operand) (ho : o.op = .convert t t x) (hx : a.eval x = .slice (some ⟨w.heap.size, 0, none⟩) n c)
    (h : K (a.put o.dst (.slice (some ⟨w.heap.size, 0, none⟩) n c)) (w.alloc (.cells C e (C.size, C.size + 1)))) : o.wp P a (w.alloc (.cells C e)) K Q := by
  unfold Oper.wp execOp; simp only [ho, hx, Sem.run_bind, Lib.run_convert_bytes_const w t e C n c ht he, Result.andThen_ok]; exact h
theorem xih {P : Program} {T : TypeId} {w : World} {a : Act} {o : Oper} {K : Act → World → Prop} {Q : Exit → Act → World → Prop} {zs : List Value} (Z : ZA P T zs) (ho : o.op = .alloc T) (h : K (a.put o.dst (.pointer (some ⟨w.heap.size, 0, none⟩))) (w.alloc (.cells zs.toArray T))) : o.wp P a w K Q := by
  obtain ⟨zv, hz, hc⟩ := Z.i
  have e : (execOp a.eval o).run P w = .ok (.value (.pointer (some ⟨w.heap.size, 0, none⟩))) (w.alloc (.cells zs.toArray T)) := by
    cases hq : P.info? T with
    | none => simp [hq] at hz
    | some j =>
      have hj : j.zero = some zv := by simpa [hq] using hz
      unfold execOp; simp [ho, Instr.alloc, zeroValue, typeInfo, hq, hj, newVar, newRow, hc]
  unfold Oper.wp; rw [e]; exact h
theorem xp9 {n : Nat} {u X : World} (h : Below n u X) (zs : List Value) : Blk (X.alloc (.cells zs.toArray 23)) X.heap.size 23 zs := Blk.new X 23 zs
def hexD : List UInt8 := [54, 101, 51, 52, 48, 98, 57, 99, 102, 102, 98, 51, 55, 97, 57, 56, 57, 99, 97, 53, 52, 52, 101, 54, 98, 98, 55, 56, 48, 97, 50, 99, 55, 56, 57, 48, 49, 100, 51, 102, 98, 51, 51, 55, 51, 56, 55, 54, 56, 53, 49, 49, 97, 51, 48, 54, 49, 55, 97, 102, 97, 48, 49, 100]
theorem hexE : (hexL tagE.l == hexD) = true := by decide +kernel
theorem xgx {w : World} {g : Nat} {x y : D32} (h : Blk w g 23 (splice x.c 0 y.c)) : Blk w g 23 y.c := by
  have e : splice x.c 0 y.c = y.c := by simp [splice, D32.cl]
  rwa [e] at h
theorem rd_own {w : World} {g t : Nat} {x : D32} (h : Blk w g t x.c) : Rd w (some ⟨g, 0, none⟩) (bvs x.l) := Rd.of_blk0 (es := []) (by rw [List.append_nil]; exact h)
theorem all0 (x : D32) : (x.c.drop 0).take 32 = x.c := by rw [List.drop_zero, List.take_of_length_le (by rw [D32.cl]; omega)]
def kz : D32 := ⟨List.replicate 32 0, by simp⟩
def ky : D32 := ⟨128 :: List.replicate 31 0, by simp⟩
theorem put1 (h : StP D w gs g ⟨[], [], 600, 0⟩ vs vf) (A : Option Addr) (hr : Rd w A (bvs [97])) : ∀ u, Below w.heap.size w u → Calls Tryz.prog 90 #[.pointer (some ⟨gs, 0, none⟩), .int .i64 0, kz.a, .slice A 1 1] u (Puts D u gs g 1 fun x => σA kz [97] x 600) := fun u hu =>
  (xsm (h.below hu) kz A 1 1 [97] (hr.below hu) ⟨rfl, by omega, by unfold maxLen; omega, by omega⟩ (show 0 + 258 ≤ 600 by omega)).mono (by
    rintro e w' ⟨D', vs', vf', x, rfl, h1, h2⟩; exact ⟨D', vs', vf', x, rfl, h1, h2⟩)
theorem xtb (x : Sv) (h : StP D w gs g (σA kz [97] x 600) vs vf) : ∀ u, Below w.heap.size w u → Calls Tryz.prog 90 #[.pointer (some ⟨gs, 0, none⟩), .int .i64 1, ky.a, .slice none 0 0] u (Puts D u gs g 3 fun y => σD kz [97] x ky [] y 600) := fun u hu =>
  (xpl kz [97] x 600 (h.below hu) ky none 0 0 [] (Rd.nil _ _) ⟨rfl, by omega, by unfold maxLen; omega, by omega⟩ (by omega) (by decide +kernel) (by decide +kernel) (by decide +kernel)).mono (by
    rintro e w' ⟨D', vs', vf', x, rfl, h1, h2⟩; exact ⟨D', vs', vf', x, rfl, h1, h2⟩)
theorem DcP.fr {T : Nat → Prop} (h : DcP D w gd gs g σ vs vf nm root) (hf : Fr T w w') (hT : ∀ k, D k ∨ k = gd → ¬ T k) : DcP D w' gd gs g σ vs vf nm root := ⟨h.blk.fr hf (hT gd (.inr rfl)), h.st.fr hf (fun k hk => hT k (.inl hk)), h.far⟩
structure Al (w0 w : World) (D : Nat → Prop) (gd gs g : Nat) (σ : Sb) (vs vf : Sv) (nm : Value) (root : Int) (ga gb : Nat) : Prop where
  dc : DcP D w gd gs g σ vs vf nm root
  ka : Blk w ga 5 (bvs kz.l)
  kb : Blk w gb 5 (bvs ky.l)
  lo : Below w0.heap.size w0 w
  hi : ∀ k, D k ∨ k = gd → w0.heap.size ≤ k
  na : ¬ (D ga ∨ ga = gd)
  nb : ¬ (D gb ∨ gb = gd)
theorem Al.below {w0 : World} {ga gb : Nat} (h : Al w0 w D gd gs g σ vs vf nm root ga gb) (hb : Below w.heap.size w w') : Al w0 w' D gd gs g σ vs vf nm root ga gb :=
  ⟨h.dc.below hb, h.ka.below hb h.ka.lt, h.kb.below hb h.kb.lt, h.lo.trans (hb.mono h.lo.size), h.hi, h.na, h.nb⟩
theorem Al.puts {w0 : World} {ga gb : Nat} {D' : Nat → Prop} {σ' : Sb} {vs' vf' : Sv} {root' : Int} (h : Al w0 w D gd gs g σ vs vf nm root ga gb) (hp : DcP D' w' gd gs g σ' vs' vf' nm root') (hs : Stp (fun k => D k ∨ k = gd) w (fun k => D' k ∨ k = gd) w') : Al w0 w' D' gd gs g σ' vs' vf' nm root' ga gb :=
  ⟨hp, h.ka.fr hs.fr h.na, h.kb.fr hs.fr h.nb, h.lo.trans ⟨hs.fr.os, hs.fr.tape, hs.fr.output, hs.fr.size, fun k hk => hs.fr.block k (Nat.lt_of_lt_of_le hk h.lo.size) (fun e => by have := h.hi k e; omega)⟩,
    fun k hk => (by rcases hs.new k hk with h1 | h1; exact h.hi k h1; exact Nat.le_trans h.lo.size h1), fun hk => (by rcases hs.new _ hk with h1 | h1; exact h.na h1; have := h.ka.lt; omega), fun hk => (by rcases hs.new _ hk with h1 | h1; exact h.nb h1; have := h.kb.lt; omega)⟩
theorem Al.ra {w0 : World} {ga gb : Nat} (h : Al w0 w D gd gs g σ vs vf nm root ga gb) : Rd w (some ⟨ga, 0, none⟩) (bvs kz.l) := Rd.of_blk0 (es := []) (by simpa using h.ka)
theorem Al.rb {w0 : World} {ga gb : Nat} (h : Al w0 w D gd gs g σ vs vf nm root ga gb) : Rd w (some ⟨gb, 0, none⟩) (bvs ky.l) := Rd.of_blk0 (es := []) (by simpa using h.kb)
theorem got3 {x y : Sv} : Got (σD kz [97] x ky [] y 600) 3 (twoNd kz [97] ky []) [] true := .inl ⟨rfl, 2, rfl, by show 2 < 3; omega, rfl, rfl, (show (1:Int) ≠ 0 by decide)⟩
theorem got31 {x y : Sv} : Got (σD kz [97] x ky [] y 600) 1 (xj1 kz [97] x 0) [97] true := .inl ⟨rfl, 0, rfl, by show 0 < 3; omega, rfl, rfl, (show (1:Int) ≠ 0 by decide)⟩
theorem root3 {x y : Sv} : ∀ u, StW D u gs (σD kz [97] x ky [] y 600) → Calls Tryz.prog 154 #[.pointer (some ⟨gs, 0, none⟩), .int .i64 3] u fun e w' => e = .returned (.int .i64 0) ∧ Below u.heap.size u w' := fun u hu => xhd hu 3 _ _ got3 (.inr ⟨rfl, rfl⟩)
theorem way3 {x y : Sv} : Way (σD kz [97] x ky [] y 600) kz 3 [3] 1 := by
  refine .step 3 _ _ 0 [] 1 got3 rfl (by omega) rfl ?_
  have e : sdO kz 0 (twoNd kz [97] ky []) = 1 := by
    unfold sdO; rw [show tb kz.l 0 = false by decide +kernel]; rfl
  rw [e]; exact .stop 1 _ _ true got31 (by show 1 ≠ 2; decide)
theorem find3 {x y : Sv} : ∀ u, StW D u gs (σD kz [97] x ky [] y 600) → Calls Tryz.prog 93 #[.pointer (some ⟨gs, 0, none⟩), .int .i64 3, kz.a] u fun e w' => ∃ v, e = .returned (.tuple #[v, .bool true, .int .i64 0]) ∧ OwnB w' u.heap.size 5 v [97] ∧ Below u.heap.size u w' := fun u hu =>
  xnz hu 3 kz [3] 1 way3 (by decide) root3 _ _ true got31 rfl rfl (by decide)
theorem xtc {P : Program} {w : World} {a : Act} {o : Oper} {T T' : TypeId} {b : Bool} (hT : P.underlying T = some .string) (x y : Operand) (ho : o.op = .binOp .neq T x y T') (l k : List UInt8) (hx : a.eval x = .string ⟨l.toArray⟩) (hy : a.eval y = .string ⟨k.toArray⟩) (h : (l == k) = !b) :
    (execOp a.eval o).run P w = .ok (.value (.bool b)) w := by
  unfold execOp; simp only [ho, hx, hy]; go_simp
theorem xtd {P : Program} {w : World} {a : Act} {o : Oper} {T T' : TypeId} {b : Bool} (hT : P.underlying T = some .string) (x y : Operand) (ho : o.op = .binOp .eql T x y T') (l k : List UInt8) (hx : a.eval x = .string ⟨l.toArray⟩) (hy : a.eval y = .string ⟨k.toArray⟩) (h : (l == k) = b) :
    (execOp a.eval o).run P w = .ok (.value (.bool b)) w := by
  unfold execOp; simp only [ho, hx, hy]; go_simp
theorem alive_ok (w : World) : Calls Tryz.prog 6 #[] w fun e w' => e = .returned (.bool true) ∧ Below w.heap.size w w' := by
  have HL := Loc.start w; obtain ⟨w0, rfl⟩ := eW w; have HEX := hZ hexE; have DN : ∀ u, Calls Tryz.prog 36 #[.int .i64 600] u fun e w' => ∃ gd gs g D nm, e = .returned (.tuple #[.pointer (some ⟨gd, 0, none⟩), .int .i64 0]) ∧ DcP D w' gd gs g ⟨[], [], 600, 0⟩ Sv.nil Sv.nil nm 0 ∧ (∀ k, D k → u.heap.size ≤ k) ∧ u.heap.size ≤ gd ∧ Below u.heap.size u w' := fun u => dict_new 600 (by omega) (by omega)
  go_enter Tryz.func6, Tryz.ntmps6; go_upto_region 0 with fail; refine X1j ?_; go_upto_region 1 with fail; refine Xs ?_; refine X1w ?_; intro K hK; refine xac cf36 rfl _ rfl ?_; refine X1y ?_; (with_reducible refine (DN _).mono ?_); rintro e w ⟨gd, gs, g, D, nm, rfl, hdc, hDn, hgdn, hb⟩; have hB1 := hb; clear hb HL; have HL := Loc.start w; obtain ⟨w1, rfl⟩ := eW w; refine X7d ?_; clear hK K; go_upto_region 2 with fail; refine X1o ?_; refine X2b ?_; go_upto_region 4 with fail
  go_cut [3, 4] from 27 to 28 (fun x y wx => ∃ ga gb, x = .slice (some ⟨ga, 0, none⟩) 32 32 ∧ y = .slice (some ⟨gb, 0, none⟩) 32 32 ∧ Blk wx ga 5 (bvs (List.replicate 32 0)) ∧ Blk wx gb 5 (bvs (List.replicate 32 0)) ∧ ga ≠ gb ∧ w1.heap.size ≤ ga ∧ w1.heap.size ≤ gb ∧ Below w1.heap.size w1 wx)
  case first =>
    refine rB (Loc.P HL) [] [0, 1] [] 4 ?_; simp only [pick, ql]; replace HL := HL.drew; refine xdj [0, 1] (by kernel_rfl) ?_; refine X3 ?_; refine ⟨⟨rfl, ?_⟩, ⟨rfl, ?_⟩, trivial⟩
    · intro K hK
      refine Xf8 ?_; replace HL := HL.next ((Below.refl _ _).alloc (Nat.le_refl _) (.cells (bvs (List.replicate 32 0)).toArray 5)); refine X3w ?_; clear hK K; refine xca [2, 1, 3] 0 (by kernel_rfl) ?_; refine X3 ?_; refine X4o ?_; refine Xe ?_; intro K hK; refine Xf8 ?_; replace HL := HL.next ((Below.refl _ _).alloc (Nat.le_refl _) (.cells (bvs (List.replicate 32 0)).toArray 5)); refine X3w ?_; clear hK K; refine X4p ?_; have h2 := xrg w1.drew (bvs (List.replicate 32 0)); refine Xf9 ?_; intro hbw; have h3 : w1.heap.size ≤ w1.drew.heap.size := Nat.le_refl _; obtain ⟨h21, h22, h23, h24, _⟩ := h2; clear HL; generalize (w1.drew.alloc (.cells (bvs (List.replicate 32 0)).toArray 5)).alloc (.cells (bvs (List.replicate 32 0)).toArray 5) = wz at *; generalize (w1.drew.alloc (.cells (bvs (List.replicate 32 0)).toArray 5)).heap.size = gy at *; generalize w1.drew.heap.size = gz at *
      have h5 := Nat.le_trans h3 h24; go_wp2_with fail; go_meet
      case rel => exact ⟨_, _, rfl, rfl, by first | exact h21 | exact h22, by first | exact h22 | exact h21, by first | exact h23 | exact h23.symm, by first | exact h3 | exact h5, by first | exact h5 | exact h3, hbw⟩
    · intro K hK
      refine Xf8 ?_; replace HL := HL.next ((Below.refl _ _).alloc (Nat.le_refl _) (.cells (bvs (List.replicate 32 0)).toArray 5)); refine X3w ?_; clear hK K; refine xca [0, 2, 3] 0 (by kernel_rfl) ?_; refine X9v ?_; intro K hK; refine Xf8 ?_; replace HL := HL.next ((Below.refl _ _).alloc (Nat.le_refl _) (.cells (bvs (List.replicate 32 0)).toArray 5)); refine X3w ?_; clear hK K; refine X4q ?_; have h2 := xrg w1.drew (bvs (List.replicate 32 0)); refine Xf9 ?_; intro hbw; have h3 : w1.heap.size ≤ w1.drew.heap.size := Nat.le_refl _; obtain ⟨h21, h22, h23, h24, _⟩ := h2; clear HL; generalize (w1.drew.alloc (.cells (bvs (List.replicate 32 0)).toArray 5)).alloc (.cells (bvs (List.replicate 32 0)).toArray 5) = wz at *; generalize (w1.drew.alloc (.cells (bvs (List.replicate 32 0)).toArray 5)).heap.size = gy at *; generalize w1.drew.heap.size = gz at *; have h5 := Nat.le_trans h3 h24
      go_wp2_with fail; go_meet
      case rel => exact ⟨_, _, rfl, rfl, by first | exact h21 | exact h22, by first | exact h22 | exact h21, by first | exact h23 | exact h23.symm, by first | exact h3 | exact h5, by first | exact h5 | exact h3, hbw⟩
  case rest =>
    obtain ⟨ga, gb, rfl, rfl, hka, hkb, hab, hga, hgb, hBc⟩ := hcut; have hdc2 := hdc.below hBc; have hBa := hB1.trans (hBc.mono hB1.size)
    have hDga : ∀ k, D k ∨ k = gd → k < w1.heap.size := fun k hk => by
      rcases hk with hk | rfl
      · exact hdc.st.sb.lt k hk
      · exact hdc.blk.lt
    have hDn2 : ∀ k, D k ∨ k = gd → w0.heap.size ≤ k := fun k hk => by
      rcases hk with hk | rfl
      · exact hDn k hk
      · exact hgdn
    clear hdc HL; have HL := (Loc.start wc).adopt (fun k => k = gb) [(gb, 5, bvs (List.replicate 32 0))] (by simp; exact hkb) (by simp); simp only [qn] at HL; obtain ⟨w, rfl⟩ := eW wc; obtain ⟨w2, rfl⟩ := eW w; go_upto_region 5 with fail; refine X11 ?_; refine xaa rfl _ (xbc sl25 _ _ rfl gb 32 32 0 .i64 rfl rfl (by omega)) ?_; refine X5 ?_; refine xa1 sc5 rfl _ _ rfl HL 0 gb 0 5 _ (bvs ky.l) _ rfl rfl rfl rfl (by simp [bvs]) (show _ = bvs ky.l from rfl) ?_; refine X2u ?_; clear HL; intro w HL; have hf2 := HL.frS; have hdc3 := hdc2.fr hf2 (fun k hk e => by have := hDga k hk; omega); have hka3 : Blk w ga 5 (bvs kz.l) := hka.fr hf2 (fun e => hab e); have hkb3 : Blk w gb 5 (bvs ky.l) := HL.blk (.head _); have hBb : Below w0.heap.size w0 w := hBa.trans ⟨hf2.os, hf2.tape, hf2.output, hf2.size, fun k hk => hf2.block k (by have := hBa.size; omega) (by have := hB1.size; omega)⟩
    have hgaD : ¬ (D ga ∨ ga = gd) := fun hk => by have := hDga ga hk; omega
    have hgbD : ¬ (D gb ∨ gb = gd) := fun hk => by have := hDga gb hk; omega
    have HA : Al w0 w D gd gs g _ _ _ nm 0 ga gb := ⟨hdc3, hka3, hkb3, hBb, hDn2, hgaD, hgbD⟩; clear HL hf2 hka hkb hdc2 hdc3 hka3 hkb3 hBb hDn2 hgaD hgbD hDga hab hga hgb hBc hBa hDn hgdn hB1; have HL := Loc.start w; obtain ⟨w3, rfl⟩ := eW w; go_upto_region 6 with fail; refine X18 ?_; refine wpList_plain rfl fun K hK => xe8 sl25 el5 _ rfl (.int .u8 97) rfl rfl (hK _ _ ?_)
    clear hK K; refine X5 ?_; refine Xt ?_; refine wpList_plain rfl fun K hK => xgw 25 5 [Value.int .u8 97].toArray 1 1 Tryz.underlying25 Tryz.underlying5 _ rfl rfl (hK _ _ ?_)
    clear hK K; refine X5 ?_; have hrl : Rd (w3.alloc (.cells [Value.int .u8 97].toArray 5 (1, 2))) (some ⟨w3.heap.size, 0, none⟩) (bvs [97]) := xig w3 [97] 1 2 _ rfl; replace HL := HL.next ((Below.refl _ _).alloc (Nat.le_refl _) (.cells [Value.int .u8 97].toArray 5 (1, 2))); generalize w3.heap.size = gl at *; generalize hwl : w3.alloc (.cells [Value.int .u8 97].toArray 5 (1, 2)) = wl at *; obtain ⟨w, rfl⟩ : ∃ w, w = wl := ⟨_, rfl⟩; refine Xaw ?_; intro K hK; refine xac cf34 rfl _ rfl ?_; refine X1y ?_; (with_reducible refine (dc_put (HA.below HL.below).dc _ 32 kz (HA.below HL.below).ra (by omega) _ 1 1 1 _ (put1 (HA.below HL.below).dc.st _ hrl)).mono ?_); rintro e w ⟨D1, vs1, vf1, x1, rfl, hdc4, hst⟩; have HA4 := (HA.below HL.below).puts hdc4 hst; clear HA HL hdc4 hst; have HL := Loc.start w; obtain ⟨w4, rfl⟩ := eW w; refine X5i ?_; clear hK K; refine X1n ?_
    refine X5h ?_; intro K hK; refine xac cf34 rfl _ rfl ?_; refine X1y ?_; (with_reducible refine (dc_put HA4.dc _ 32 ky HA4.rb (by omega) _ 0 0 3 _ (xtb x1 HA4.dc.st)).mono ?_); rintro e w ⟨D2, vs2, vf2, x2, rfl, hdc5, hst⟩; have HA5 := HA4.puts hdc5 hst; clear HA4 HL hdc5 hst; have HL := Loc.start w; obtain ⟨w5, rfl⟩ := eW w; refine X5i ?_; clear hK K; refine X2b ?_; go_upto_region 8 with fail; refine X2k ?_; intro K hK; refine xac cf37 rfl _ rfl ?_; refine X1y ?_; (with_reducible refine (dc_get HA5.dc _ 32 kz HA5.ra (by omega) [97] find3).mono ?_); rintro e w ⟨v, rfl, hov, hb⟩; obtain ⟨vA, vc, rfl, hv1, hv2, hv3⟩ := hov.rd; have HA := HA5.below hb; clear HA5 HL hb hov; have HL := Loc.start w; obtain ⟨w6, rfl⟩ := eW w; refine X51 ?_; clear hK K; refine X47 ?_; refine X7g ?_; go_upto_region 9 with fail; refine X1x ?_; intro K hK; refine Xeu ?_
    (with_reducible refine (dc_root (HA.below HL.below).dc _ _ got3).mono ?_); refine X4a ?_; clear hK K; intro w HL; refine xai zr23 rfl rfl HL ?_; clear HL; intro g8 w HL; refine X5m ?_; refine X4c ?_; clear HL; intro w HL; go_upto_region 10 with fail; refine X1x ?_; intro K hK; refine xac cf38 rfl _ rfl ?_; refine X1y ?_; (with_reducible refine (dc_len (HA.below HL.below).dc _ _ true got3 root3).mono ?_); refine X45 ?_; clear hK K; intro w HL; refine X7c ?_; go_upto_region 11 with fail; refine X1o ?_; refine X1s ?_; refine X27 ?_; refine X1s ?_; refine X27 ?_; refine X1s ?_; refine X27 ?_; refine xad rfl _ (xbd bt _ rfl vA 1 vc rfl [97] (hv3.below HL.below) rfl) ?_; refine X5 ?_; refine xad rfl _ (xtc (b := false) Tryz.underlying9 _ _ rfl [97] [97] rfl rfl (by decide)) ?_; refine X27 ?_
    refine xad rfl _ (xa4 (b := false) _ _ rfl 2 2 rfl rfl rfl) ?_; refine X27 ?_; refine X5g ?_; intro K hK; refine xac cf39 rfl _ rfl ?_; refine X1y ?_; (with_reducible refine (xoh (HA.below HL.below).dc).mono ?_); rintro e w ⟨rfl, rfl⟩; refine X5i ?_; clear hK K; refine xad rfl _ (xa4 (b := false) _ _ rfl 3 3 rfl rfl rfl) ?_; refine X2a ?_; go_upto_region 13 with fail; refine X1x ?_; intro K hK; refine Xcr ?_; (with_reducible refine (of_d _ _ 32 32 ky (HA.below HL.below).rb rfl (by omega)).mono ?_); refine X4a ?_; clear hK K; intro w HL; refine xai zr24 rfl rfl HL ?_; clear HL; intro g12 w HL; refine X6p ?_; refine X4c ?_; clear HL; intro w HL; obtain ⟨w7, rfl⟩ := eW w; go_upto_region 14 with fail; refine Xs ?_; refine xaa rfl _ (xcu _ rfl D32.z.c.toArray (by kernel_rfl)) ?_; refine X5 ?_
    refine wpList_plain rfl fun K hK => xe8 sl25 el5 _ rfl (.int .u8 97) rfl rfl (hK _ _ ?_)
    clear hK K; refine X5 ?_; refine Xt ?_; refine wpList_plain rfl fun K hK => xgw 25 5 [Value.int .u8 97].toArray 1 1 Tryz.underlying25 Tryz.underlying5 _ rfl rfl (hK _ _ ?_)
    clear hK K; refine X5 ?_; have hrm : Rd (w7.alloc (.cells [Value.int .u8 97].toArray 5 (1, 2))) (some ⟨w7.heap.size, 0, none⟩) (bvs [97]) := xig w7 [97] 1 2 _ rfl; replace HL := HL.next ((Below.refl _ _).alloc (Nat.le_refl _) (.cells [Value.int .u8 97].toArray 5 (1, 2))); generalize w7.heap.size = gm at *; generalize hwm : w7.alloc (.cells [Value.int .u8 97].toArray 5 (1, 2)) = wm at *; obtain ⟨w, rfl⟩ : ∃ w, w = wm := ⟨_, rfl⟩; refine Xaw ?_; intro K hK; refine X5l ?_; (with_reducible refine (xlz _ _ 1 1 [97] hrm rfl (by omega) (by unfold maxLen; omega) (by omega)).mono ?_); refine X45 ?_; clear hK K; intro w HL; refine X4z ?_; intro K hK; refine X5p ?_; (with_reducible refine (xpf _ D32.z (tagV [97])).mono ?_); refine X4x ?_; clear hK K; intro w HL; refine xai zr23 rfl rfl HL ?_; clear HL; intro g14 w HL; refine X5m ?_; refine X35 ?_; clear HL; intro w HL; clear hrm
    obtain ⟨w8, rfl⟩ := eW w; go_upto_region 15 with fail
    go_cut [15] from 98 to 100 (fun x wx => ∃ gx, x = .pointer (some ⟨gx, 0, none⟩) ∧ Blk wx gx 23 (tagL ky (tagV [])).c ∧ w8.heap.size ≤ gx ∧ Below w8.heap.size w8 wx)
    case first =>
      have hBB : Below w8.heap.size w8 w8.drew := (Below.refl _ _).drew; refine rB (Loc.P HL) [4] [1, 2, 3, 4] [0] 4 ?_; refine X3a ?_; intro HL; refine X5o ?_; refine X5 ?_; refine xdj [1, 3] (by kernel_rfl) ?_; refine X3 ?_; refine ⟨⟨rfl, ?_⟩, ⟨rfl, ?_⟩, trivial⟩
      · intro K hK
        refine X5l ?_; refine Xfa ?_; refine X43 ?_; intro w hb HL; replace hBB := hBB.trans (hb.mono hBB.size); (try replace hbx := hbx.below hb hbx.lt); clear hb; refine X58 ?_; clear hK K; refine xdj [2, 3] (by kernel_rfl) ?_; refine X3 ?_; refine ⟨⟨rfl, ?_⟩, ⟨rfl, ?_⟩, trivial⟩
        · intro K hK
          refine Xfb ?_; refine X43 ?_; intro w hb HL; replace hBB := hBB.trans (hb.mono hBB.size); (try replace hbx := hbx.below hb hbx.lt); clear hb; refine X58 ?_; clear hK K; refine xca [3, 4] 0 (by kernel_rfl) ?_; refine X9v ?_; intro K hK; refine xih zr23 rfl ?_; have hbx := xp9 hBB D32.z.c; replace HL := HL.next ((Below.refl _ _).alloc (Nat.le_refl _) (.cells D32.z.c.toArray 23)); have hlx := hBB.size; replace hBB := hBB.trans (((Below.refl _ _).alloc (Nat.le_refl _) (.cells D32.z.c.toArray 23)).mono hBB.size); refine X3x ?_; clear hK K; intro K hK; refine xbs ag23.i _ _ rfl _ 0 23 _ _ rfl rfl hbx (D32.cl _) (by rw [D32.cl]; decide) (D32.c1 _) ?_; intro w' hb' hg' _; refine hK _ _ (fun h => by cases h) ?_; clear hK K; refine Xm ?_; have hb2 := xgx hb'; have hBw := hBB.grown hg' hBB.size (by intro k hk; cases hk; exact hlx); go_wp2_with fail; go_meet
          case rel => exact ⟨_, rfl, hb2, hlx, hBw⟩
        · intro K hK
          refine xih zr23 rfl ?_; have hbx := xp9 hBB D32.z.c; replace HL := HL.next ((Below.refl _ _).alloc (Nat.le_refl _) (.cells D32.z.c.toArray 23)); have hlx := hBB.size; replace hBB := hBB.trans (((Below.refl _ _).alloc (Nat.le_refl _) (.cells D32.z.c.toArray 23)).mono hBB.size); refine X3w ?_; clear hK K; refine xca [2, 4] 0 (by kernel_rfl) ?_; refine X9v ?_; intro K hK; refine Xfb ?_; refine X43 ?_; intro w hb HL; replace hBB := hBB.trans (hb.mono hBB.size); (try replace hbx := hbx.below hb hbx.lt); clear hb; refine X70 ?_; clear hK K; intro K hK; refine xbs ag23.i _ _ rfl _ 0 23 _ _ rfl rfl hbx (D32.cl _) (by rw [D32.cl]; decide) (D32.c1 _) ?_; intro w' hb' hg' _; refine hK _ _ (fun h => by cases h) ?_; clear hK K; refine Xm ?_; have hb2 := xgx hb'; have hBw := hBB.grown hg' hBB.size (by intro k hk; cases hk; exact hlx); go_wp2_with fail; go_meet
          case rel => exact ⟨_, rfl, hb2, hlx, hBw⟩
      · intro K hK
        refine xih zr23 rfl ?_; have hbx := xp9 hBB D32.z.c; replace HL := HL.next ((Below.refl _ _).alloc (Nat.le_refl _) (.cells D32.z.c.toArray 23)); have hlx := hBB.size; replace hBB := hBB.trans (((Below.refl _ _).alloc (Nat.le_refl _) (.cells D32.z.c.toArray 23)).mono hBB.size); refine X3w ?_; clear hK K; refine xca [1, 2, 4] 0 (by kernel_rfl) ?_; refine X9v ?_; intro K hK; refine X5l ?_; refine Xfa ?_; refine X43 ?_; intro w hb HL; replace hBB := hBB.trans (hb.mono hBB.size); (try replace hbx := hbx.below hb hbx.lt); clear hb; refine X70 ?_; clear hK K; intro K hK; refine Xfb ?_; refine X43 ?_; intro w hb HL; replace hBB := hBB.trans (hb.mono hBB.size); (try replace hbx := hbx.below hb hbx.lt); clear hb; refine X70 ?_; clear hK K; intro K hK; refine xbs ag23.i _ _ rfl _ 0 23 _ _ rfl rfl hbx (D32.cl _) (by rw [D32.cl]; decide) (D32.c1 _) ?_; intro w' hb' hg' _
        refine hK _ _ (fun h => by cases h) ?_; clear hK K; refine Xm ?_; have hb2 := xgx hb'; have hBw := hBB.grown hg' hBB.size (by intro k hk; cases hk; exact hlx); go_wp2_with fail; go_meet
        case rel => exact ⟨_, rfl, hb2, hlx, hBw⟩
    case rest =>
      obtain ⟨gx, rfl, hkx, hlx, hBx⟩ := hcut; replace HL := HL.next hBx; have hk8 : Blk wc g8 23 (tagI (tagL kz (tagV [97])) (tagL ky (tagV []))).c := HL.blk (.tail _ (.tail _ (.head _))); have hk14 : Blk wc g14 23 (tagL D32.z (tagV [97])).c := HL.blk (.head _); have hlow := (HA.below HL.below).lo; clear HL HA hlx hBx; have HL := Loc.start wc; obtain ⟨w, rfl⟩ := eW wc; obtain ⟨w9, rfl⟩ := eW w; go_upto_region 16 with fail; refine Xs ?_; refine X1w ?_; intro K hK; refine xac cf43 rfl _ rfl ?_; refine X1y ?_; (with_reducible refine (xqi _).mono ?_); refine X4x ?_; clear hK K; intro w HL; refine xai zr23 rfl rfl HL ?_; clear HL; intro g16 w HL; refine X5m ?_; refine X35 ?_; clear HL; intro w HL; have o8 : Old w9 g8 := hk8.lt; have o14 : Old w9 g14 := hk14.lt; have ox : Old w9 gx := hkx.lt; have hkz : kz = D32.z := rfl; go_upto_region 17 with fail
      refine rB (Loc.P HL) [] [6, 11] [0, 1, 2, 3, 4, 5, 6, 7, 8, 9, 10, 11, 12, 13, 14] 0 ?_; refine X3c ?_; intro HL; refine X3i ?_; refine X3g ?_; refine xab rfl rfl HL (fun W hW => xf1 ag23 hW _ rfl _ _ rfl _ _ _ o8 hk8 (all0 _) (D32.cl _)) ?_; refine X5 ?_; refine xab rfl rfl HL (fun W hW => xf1 ag23 hW _ rfl _ _ rfl _ _ _ o14 hk14 (all0 _) (D32.cl _)) ?_; refine X5 ?_; refine xab rfl rfl HL (fun W hW => xf1 ag23 hW _ rfl _ _ rfl _ _ _ ox hkx (all0 _) (D32.cl _)) ?_; refine Xf ?_; intro K hK; refine X72 ?_; (with_reducible refine (xi2 _ (tagL D32.z (tagV [97])) (tagL ky (tagV []))).mono ?_); refine X7f ?_; clear hK K; intro w HL; refine xab rfl rfl HL (fun W hW => xfs ab25 _ _ rfl (tagI (tagL kz (tagV [97])) (tagL ky (tagV []))) (tagI (tagL D32.z (tagV [97])) (tagL ky (tagV []))) rfl rfl true (by rw [hkz]; exact beq_self_eq_true _)) ?_; refine X3j ?_
      refine X3g ?_; refine xab rfl rfl HL (fun W hW => xcl ia25 _ rfl g16 0 rfl) ?_; refine Xf ?_; intro K hK; refine xac cf45 rfl _ rfl ?_; refine X1y ?_; (with_reducible refine (hex_any (some ⟨g16, 0, none⟩) 32 32 tagE.l _ (rd_own (HL.blk (List.Mem.head _))) tagE.h (by omega)).mono ?_); refine X7f ?_; clear hK K; intro w HL; refine xab rfl rfl HL (fun W hW => xtd Tryz.underlying9 _ _ rfl (hexL tagE.l) hexD rfl rfl HEX.out) ?_; refine X3j ?_; refine X5 ?_; refine X4p ?_; go_wp2_with fail; go_ret; exact ⟨rfl, hlow.trans (HL.below.mono hlow.size)⟩
end
end Go.Proofs.YtkjjdgnkelchfaaGreat
