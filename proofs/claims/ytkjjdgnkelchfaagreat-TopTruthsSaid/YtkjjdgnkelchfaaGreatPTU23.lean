/- TopTruths answers true for every input, and every argument reads behind the call as it read before. Conditions: none beyond the row's own (arguments that a machine can hold). -/
import Derived.Test.YtkjjdgnkelchfaaGreatPTU22
set_option linter.unusedSimpArgs false
set_option linter.unusedVariables false
set_option maxRecDepth 100000
set_option maxHeartbeats 16000000
namespace Go.Proofs.YtkjjdgnkelchfaaGreat.topTruths
open Go.ChangeShapes Go.WideShapes Go.ChangeAt Go.RowKit
open Go.ChangeMaps (open_string shut_string)
theorem xbu {a b : Bool} (h : a = true) (k : b = true) : (a && b) = true := by rw [h, k]; rfl
theorem own : ownKnob Tryz.prog.godebug = none := by kernel_rfl
theorem laidOut : laidOutB Tryz.prog = true := by kernel_rfl
theorem contract (H : Type) (enc : TypeId × Value → H) (W : World) (base : Nat) (args : Array Value) (ds gs : List (DataW H)) (before : List MemPlace)
    (hval0 : ∀ (j : Nat) t v, Tryz.f3.params[j]? = some t → args[j]? = some v → Value.okWide Tryz.prog W .any base t v)
    (hW : DataW.Whole enc Tryz.prog Tryz.f3.params.toList Rows.topTruthsSpec.vars false W args.toList ds gs before) 
    (hsz0 : (DataW.weightsEach Tryz.prog (Tryz.f3.params.toList ++ Rows.topTruthsSpec.plain.varTypes Tryz.prog) (ds ++ gs)).all (· ≤ reachBytes) = true) :
    Calls Tryz.prog 3 args W fun e W' => ∃ v, e = .returned v ∧ Rows.topTruthsSpec.post enc Tryz.prog Tryz.f3 false true false false W args v W' := by
  have hval : ∀ (j : Nat) t v, Tryz.f3.params[j]? = some t → args[j]? = some v → Value.okWide Tryz.prog W .any base t v := hval0; have hsz : (DataW.weightsEach Tryz.prog (Tryz.f3.params.toList ++ Rows.topTruthsSpec.plain.varTypes Tryz.prog) (ds ++ gs)).all (· ≤ reachBytes) = true := hsz0; have hW' := hW; obtain ⟨p, q, hA0, hV, rfl, hfz, hnd⟩ := hW; have hA : DataW.TrodAll enc Tryz.prog W 0 (fun _ => true) true Tryz.f3.params.toList args.toList ds p := hA0; rw [Tryz.params3] at hA hval hsz; obtain ⟨v0, vs0, d0, ds0, p0, q0, hargs, rfl, rfl, h0, r0⟩ := trodAll_cons hA; obtain ⟨v1, vs1, d1, ds1, p1, q1, rfl, rfl, rfl, h1, r1⟩ := trodAll_cons r0; obtain ⟨v2, vs2, d2, ds2, p2, q2, rfl, rfl, rfl, h2, r2⟩ := trodAll_cons r1; obtain ⟨v3, vs3, d3, ds3, p3, q3, rfl, rfl, rfl, h3, r3⟩ := trodAll_cons r2; obtain ⟨v4, vs4, d4, ds4, p4, q4, rfl, rfl, rfl, h4, r4⟩ := trodAll_cons r3
  obtain ⟨v5, vs5, d5, ds5, p5, q5, rfl, rfl, rfl, h5, r5⟩ := trodAll_cons r4; obtain ⟨v6, vs6, d6, ds6, p6, q6, rfl, rfl, rfl, h6, r6⟩ := trodAll_cons r5; obtain ⟨v7, vs7, d7, ds7, p7, q7, rfl, rfl, rfl, h7, r7⟩ := trodAll_cons r6; obtain ⟨v8, vs8, d8, ds8, p8, q8, rfl, rfl, rfl, h8, r8⟩ := trodAll_cons r7; obtain ⟨v9, vs9, d9, ds9, p9, q9, rfl, rfl, rfl, h9, r9⟩ := trodAll_cons r8; obtain ⟨rfl, rfl, rfl⟩ := trodAll_nil r9; obtain rfl : args = #[v0, v1, v2, v3, v4, v5, v6, v7, v8, v9] := by cases args; simp_all
  obtain ⟨rfl, rfl⟩ := trodVars_none hV; have k0_ := h0; have lt0 : ∀ x ∈ p0, x.block < W.heap.size := by obtain ⟨m, hm⟩ := k0_; exact DataW.trod_lt m _ _ _ hm
  obtain ⟨k0, lk0, rfl⟩ := xg5 Tryz.underlying23 Tryz.underlying5 (by kernel_rfl) (by kernel_rfl : Tryz.prog.cellsOf 23 = 32) (hval 0 23 v0 rfl rfl) h0; have k1_ := h1; have lt1 : ∀ x ∈ p1, x.block < W.heap.size := by obtain ⟨m, hm⟩ := k1_; exact DataW.trod_lt m _ _ _ hm
  obtain ⟨k1, lk1, rfl⟩ := xg5 Tryz.underlying24 Tryz.underlying5 (by kernel_rfl) (by kernel_rfl : Tryz.prog.cellsOf 24 = 32) (hval 1 24 v1 rfl rfl) h1; have k2_ := h2; have lt2 : ∀ x ∈ p2, x.block < W.heap.size := by obtain ⟨m, hm⟩ := k2_; exact DataW.trod_lt m _ _ _ hm
  obtain ⟨A2, n2, c2, l2, rfl, len2, cap2, rd2, dd2⟩ := xed bt (by kernel_rfl) (hval 2 25 v2 rfl rfl) h2
  have bd2 : c2 ≤ 140737488351232 := by
    rcases dd2 with ⟨_, h⟩ | ⟨es, sp, hd, h⟩
    · omega
    · have := sized_slice hsz (j := 2) (t := 25) (e := 5) (elems := es) (spare := sp) rfl (by rw [hd]; rfl) Tryz.underlying25
      rw [show Tryz.prog.bytesOf 5 = 1 by kernel_rfl] at this; simp only [reachBytes] at this; omega
  have tx2 : Tx W A2 n2 c2 l2 := ⟨len2, cap2, by unfold maxLen; omega, rd2, fun _ _ h => h⟩; have k3_ := h3; have lt3 : ∀ x ∈ p3, x.block < W.heap.size := by obtain ⟨m, hm⟩ := k3_; exact DataW.trod_lt m _ _ _ hm
  obtain ⟨A3, n3, c3, l3, rfl, len3, cap3, rd3, dd3⟩ := xed bt (by kernel_rfl) (hval 3 25 v3 rfl rfl) h3
  have bd3 : c3 ≤ 140737488351232 := by
    rcases dd3 with ⟨_, h⟩ | ⟨es, sp, hd, h⟩
    · omega
    · have := sized_slice hsz (j := 3) (t := 25) (e := 5) (elems := es) (spare := sp) rfl (by rw [hd]; rfl) Tryz.underlying25
      rw [show Tryz.prog.bytesOf 5 = 1 by kernel_rfl] at this; simp only [reachBytes] at this; omega
  have tx3 : Tx W A3 n3 c3 l3 := ⟨len3, cap3, by unfold maxLen; omega, rd3, fun _ _ h => h⟩; have k4_ := h4; have lt4 : ∀ x ∈ p4, x.block < W.heap.size := by obtain ⟨m, hm⟩ := k4_; exact DataW.trod_lt m _ _ _ hm
  obtain ⟨A4, n4, c4, l4, rfl, len4, cap4, rd4, dd4⟩ := xed bt (by kernel_rfl) (hval 4 25 v4 rfl rfl) h4
  have bd4 : c4 ≤ 140737488351232 := by
    rcases dd4 with ⟨_, h⟩ | ⟨es, sp, hd, h⟩
    · omega
    · have := sized_slice hsz (j := 4) (t := 25) (e := 5) (elems := es) (spare := sp) rfl (by rw [hd]; rfl) Tryz.underlying25
      rw [show Tryz.prog.bytesOf 5 = 1 by kernel_rfl] at this; simp only [reachBytes] at this; omega
  have tx4 : Tx W A4 n4 c4 l4 := ⟨len4, cap4, by unfold maxLen; omega, rd4, fun _ _ h => h⟩; have k5_ := h5; have lt5 : ∀ x ∈ p5, x.block < W.heap.size := by obtain ⟨m, hm⟩ := k5_; exact DataW.trod_lt m _ _ _ hm
  obtain ⟨A5, n5, c5, ks5, rfl, hk5⟩ := xup Tryz.underlying26 Tryz.underlying24 Tryz.underlying5 (by kernel_rfl) (by kernel_rfl) (hval 5 26 v5 rfl rfl) h5; have k6_ := h6; have lt6 : ∀ x ∈ p6, x.block < W.heap.size := by obtain ⟨m, hm⟩ := k6_; exact DataW.trod_lt m _ _ _ hm
  obtain ⟨A6, n6, c6, l6, rfl, len6, cap6, rd6, dd6⟩ := xed bt (by kernel_rfl) (hval 6 25 v6 rfl rfl) h6
  have bd6 : c6 ≤ 140737488351232 := by
    rcases dd6 with ⟨_, h⟩ | ⟨es, sp, hd, h⟩
    · omega
    · have := sized_slice hsz (j := 6) (t := 25) (e := 5) (elems := es) (spare := sp) rfl (by rw [hd]; rfl) Tryz.underlying25
      rw [show Tryz.prog.bytesOf 5 = 1 by kernel_rfl] at this; simp only [reachBytes] at this; omega
  have tx6 : Tx W A6 n6 c6 l6 := ⟨len6, cap6, by unfold maxLen; omega, rd6, fun _ _ h => h⟩; have k7_ := h7; have lt7 : ∀ x ∈ p7, x.block < W.heap.size := by obtain ⟨m, hm⟩ := k7_; exact DataW.trod_lt m _ _ _ hm
  obtain ⟨k7, lk7, rfl⟩ := xg5 Tryz.underlying24 Tryz.underlying5 (by kernel_rfl) (by kernel_rfl : Tryz.prog.cellsOf 24 = 32) (hval 7 24 v7 rfl rfl) h7; have k8_ := h8; have lt8 : ∀ x ∈ p8, x.block < W.heap.size := by obtain ⟨m, hm⟩ := k8_; exact DataW.trod_lt m _ _ _ hm
  obtain ⟨k8, lk8, rfl⟩ := xg5 Tryz.underlying24 Tryz.underlying5 (by kernel_rfl) (by kernel_rfl : Tryz.prog.cellsOf 24 = 32) (hval 8 24 v8 rfl rfl) h8; have k9_ := h9; have lt9 : ∀ x ∈ p9, x.block < W.heap.size := by obtain ⟨m, hm⟩ := k9_; exact DataW.trod_lt m _ _ _ hm
  obtain ⟨A9, n9, c9, l9, rfl, len9, cap9, rd9, dd9⟩ := xed bt (by kernel_rfl) (hval 9 25 v9 rfl rfl) h9
  have bd9 : c9 ≤ 140737488351232 := by
    rcases dd9 with ⟨_, h⟩ | ⟨es, sp, hd, h⟩
    · omega
    · have := sized_slice hsz (j := 9) (t := 25) (e := 5) (elems := es) (spare := sp) rfl (by rw [hd]; rfl) Tryz.underlying25
      rw [show Tryz.prog.bytesOf 5 = 1 by kernel_rfl] at this; simp only [reachBytes] at this; omega
  have tx9 : Tx W A9 n9 c9 l9 := ⟨len9, cap9, by unfold maxLen; omega, rd9, fun _ _ h => h⟩; clear hA0 hval0; refine (xnw ⟨k0, lk0⟩ ⟨k1, lk1⟩ ⟨k7, lk7⟩ ⟨k8, lk8⟩ ⟨A2, n2, c2⟩ ⟨A3, n3, c3⟩ ⟨A4, n4, c4⟩ ⟨A6, n6, c6⟩ ⟨A9, n9, c9⟩ A5 n5 c5 l2 l3 l4 l6 l9 ks5 W tx2 tx3 tx4 tx6 tx9 hk5 (Nat.le_trans cap4 bd4)).mono fun e W' ⟨he, bel⟩ => ?_
  subst he
  exact ⟨_, rfl, _, _, _, [], _, [], hW', trodAll_mk1 (shut_bool Tryz.underlying4 _), (trodAll_cons_mk (Below.trod laidOut (by kernel_rfl) (of_decide_eq_true (by kernel_rfl)) k0_ bel lt0) (trodAll_cons_mk (Below.trod laidOut (by kernel_rfl) (of_decide_eq_true (by kernel_rfl)) k1_ bel lt1) (trodAll_cons_mk (Below.trod laidOut (by kernel_rfl) (of_decide_eq_true (by kernel_rfl)) k2_ bel lt2) (trodAll_cons_mk (Below.trod laidOut (by kernel_rfl) (of_decide_eq_true (by kernel_rfl)) k3_ bel lt3) (trodAll_cons_mk (Below.trod laidOut (by kernel_rfl) (of_decide_eq_true (by kernel_rfl)) k4_ bel lt4) (trodAll_cons_mk (Below.trod laidOut (by kernel_rfl) (of_decide_eq_true (by kernel_rfl)) k5_ bel lt5) (trodAll_cons_mk (Below.trod laidOut (by kernel_rfl) (of_decide_eq_true (by kernel_rfl)) k6_ bel lt6) (trodAll_cons_mk (Below.trod laidOut (by kernel_rfl) (of_decide_eq_true (by kernel_rfl)) k7_ bel lt7) (trodAll_cons_mk (Below.trod laidOut (by kernel_rfl) (of_decide_eq_true (by kernel_rfl)) k8_ bel lt8) (trodAll_cons_mk (Below.trod laidOut (by kernel_rfl) (of_decide_eq_true (by kernel_rfl)) k9_ bel lt9) trodAll_mk0)))))))))), rfl, bel.frame _, fun h => by cases h⟩
theorem lifted (os : Os) (started : os.Started) (H : Type) (enc : TypeId × Value → H) :
    ReturnsInHanded {} Tryz.checked os 3 .any (Rows.topTruthsSpec.pre6 enc Tryz.prog Tryz.f3 Rows.topTruthsRow.domain false) (Rows.topTruthsSpec.post enc Tryz.prog Tryz.f3 false true false false) := by
  refine returnsInHanded_of_change_sized (C := Tryz.checked) own started (by kernel_rfl) Tryz.func3
    (ChangeSpec.witness6 (enc := enc) (C := Tryz.checked) false ⟨#[], #[.agg #[.int .u8 0, .int .u8 0, .int .u8 0, .int .u8 0, .int .u8 0, .int .u8 0, .int .u8 0, .int .u8 0, .int .u8 0, .int .u8 0, .int .u8 0, .int .u8 0, .int .u8 0, .int .u8 0, .int .u8 0, .int .u8 0, .int .u8 0, .int .u8 0, .int .u8 0, .int .u8 0, .int .u8 0, .int .u8 0, .int .u8 0, .int .u8 0, .int .u8 0, .int .u8 0, .int .u8 0, .int .u8 0, .int .u8 0, .int .u8 0, .int .u8 0, .int .u8 0], .agg #[.int .u8 0, .int .u8 0, .int .u8 0, .int .u8 0, .int .u8 0, .int .u8 0, .int .u8 0, .int .u8 0, .int .u8 0, .int .u8 0, .int .u8 0, .int .u8 0, .int .u8 0, .int .u8 0, .int .u8 0, .int .u8 0, .int .u8 0, .int .u8 0, .int .u8 0, .int .u8 0, .int .u8 0, .int .u8 0, .int .u8 0, .int .u8 0, .int .u8 0, .int .u8 0, .int .u8 0, .int .u8 0, .int .u8 0, .int .u8 0, .int .u8 0, .int .u8 0], .slice none 0 0, .slice none 0 0, .slice none 0 0, .slice none 0 0, .slice none 0 0, .agg #[.int .u8 0, .int .u8 0, .int .u8 0, .int .u8 0, .int .u8 0, .int .u8 0, .int .u8 0, .int .u8 0, .int .u8 0, .int .u8 0, .int .u8 0, .int .u8 0, .int .u8 0, .int .u8 0, .int .u8 0, .int .u8 0, .int .u8 0, .int .u8 0, .int .u8 0, .int .u8 0, .int .u8 0, .int .u8 0, .int .u8 0, .int .u8 0, .int .u8 0, .int .u8 0, .int .u8 0, .int .u8 0, .int .u8 0, .int .u8 0, .int .u8 0, .int .u8 0], .agg #[.int .u8 0, .int .u8 0, .int .u8 0, .int .u8 0, .int .u8 0, .int .u8 0, .int .u8 0, .int .u8 0, .int .u8 0, .int .u8 0, .int .u8 0, .int .u8 0, .int .u8 0, .int .u8 0, .int .u8 0, .int .u8 0, .int .u8 0, .int .u8 0, .int .u8 0, .int .u8 0, .int .u8 0, .int .u8 0, .int .u8 0, .int .u8 0, .int .u8 0, .int .u8 0, .int .u8 0, .int .u8 0, .int .u8 0, .int .u8 0, .int .u8 0, .int .u8 0], .slice none 0 0], []⟩ 8 (by kernel_rfl) (by kernel_rfl) (by kernel_rfl) (by kernel_rfl)) ?_
  intro W base args ds gs before hval0 hW hcnd hsz0 _; exact contract H enc W base args ds gs before hval0 hW hsz0
theorem jf0 : (Rows.topTruthsRow.wf (OpenSpec.ofChange Rows.topTruthsSpec) : Bool) = true := by kernel_rfl
theorem jf3 : (Tryz.f3.params.all (Tryz.prog.readableRec ·) : Bool) = true := by kernel_rfl
theorem jf4 : (namedTie Tryz.prog Rows.topTruthsRow.named Rows.topTruthsSpec.vars : Bool) = true := by kernel_rfl
theorem jf5 : ((Rows.topTruthsRow.stops == []) : Bool) = true := by kernel_rfl
theorem jf7 : ((Rows.topTruthsRow.knobs == []) : Bool) = true := by kernel_rfl
theorem jf9 : ((Rows.topTruthsRow.inPlace == Tryz.prog.inPlace 3) : Bool) = true := by kernel_rfl
theorem jf10 : ((Rows.topTruthsRow.unfollowed == Tryz.prog.unfollowed 3) : Bool) = true := by kernel_rfl
theorem jf11 : ((Rows.topTruthsRow.recurses == Tryz.prog.recurses 3) : Bool) = true := by kernel_rfl
theorem jf12 : ((Rows.topTruthsRow.named == Tryz.prog.varsNamed 3) : Bool) = true := by kernel_rfl
theorem jf13 : ((Rows.topTruthsRow.maps == (Tryz.f3.params.toList ++ Rows.topTruthsSpec.plain.varTypes Tryz.prog).any (Tryz.prog.mapsRec ·)) : Bool) = true := by kernel_rfl
theorem jf14 : ((Rows.topTruthsRow.ifaces == (Tryz.f3.params.toList ++ Rows.topTruthsSpec.plain.varTypes Tryz.prog).any (Tryz.prog.ifacesRec ·)) : Bool) = true := by kernel_rfl
theorem jf15 : ((Rows.topTruthsRow.mapsOut == Tryz.prog.mapsAmong Tryz.f3.resultTypes.toList) : Bool) = true := by kernel_rfl
theorem jf16 : ((Rows.topTruthsRow.loops == (Tryz.f3.params.toList ++ Rows.topTruthsSpec.plain.varTypes Tryz.prog).any (Tryz.prog.loopsFrom ·)) : Bool) = true := by kernel_rfl
theorem jf17 : ((Rows.topTruthsRow.wideKeys == (Tryz.f3.params.toList ++ Rows.topTruthsSpec.plain.varTypes Tryz.prog ++ Tryz.f3.resultTypes.toList).any (Tryz.prog.wideKeysFrom ·)) : Bool) = true := by kernel_rfl
theorem jf18 : (Rows.topTruthsSpec.vars.all (Tryz.prog.varReadable ·) : Bool) = true := by kernel_rfl
theorem jf19 : (Tryz.f3.resultTypes.all (fun t => Tryz.prog.readableRec t && decide (t < Tryz.prog.types.size)) : Bool) = true := by kernel_rfl
theorem jf20 : ((Rows.topTruthsRow.ifacesOut == Tryz.f3.resultTypes.toList.any (Tryz.prog.ifacesRec ·)) : Bool) = true := by kernel_rfl
theorem jf21 : ((Rows.topTruthsRow.loopsOut == Tryz.f3.resultTypes.toList.any (Tryz.prog.loopsFrom ·)) : Bool) = true := by kernel_rfl
theorem jf22 : (Rows.topTruthsRow.plainKeys == Tryz.prog.plainKeys) = true := by rw [fa_keys]; rfl
theorem jf23 : (Rows.topTruthsRow.shortTexts.isNone : Bool) = true := by kernel_rfl
theorem jf26 : (Rows.topTruthsRow.lifted == Tryz.prog.liftsFinal) = true := by rw [fa_lifts]; rfl
theorem jf27 : (Tryz.prog.make == some Rows.topTruthsRow.make) = true := by rw [fa_make]; rfl
theorem jf28 : ((Rows.topTruthsRow.kinds == (if Rows.topTruthsRow.domain.isEmpty then [] else Tryz.f3.params.toList.map fun t => match Tryz.prog.underlying t with | some (.int k) => some k | _ => none)) : Bool) = true := by kernel_rfl
theorem jf29 : ((Rows.topTruthsRow.pinned == Rows.topTruthsRow.pinnedBy) : Bool) = true := by kernel_rfl
theorem jf30 : ((Rows.topTruthsRow.veiled == (Tryz.f3.params.toList ++ Rows.topTruthsSpec.plain.varTypes Tryz.prog ++ Tryz.f3.resultTypes.toList).any (Tryz.prog.veiledRec ·)) : Bool) = true := by kernel_rfl
theorem jf31 : (Rows.topTruthsRow.veiledFits Tryz.prog Tryz.f3.params.toList (Tryz.f3.params.toList ++ Rows.topTruthsSpec.plain.varTypes Tryz.prog ++ Tryz.f3.resultTypes.toList) : Bool) = true := by kernel_rfl
theorem over : Rows.topTruthsRow.holds Tryz.pinned (OpenSpec.ofChange Rows.topTruthsSpec) :=
  OpenClaim.holds_of_wide 3 Tryz.f3 rfl rfl rfl rfl rfl rfl rfl ⟨rfl, rfl, rfl, rfl, rfl⟩ rfl rfl rfl rfl rfl (by kernel_rfl) Tryz.func3
    (xbu (xbu (xbu (xbu (xbu (xbu (xbu (xbu (xbu (xbu (xbu (xbu (xbu (xbu (xbu (xbu (xbu (xbu (xbu (xbu (xbu (xbu (xbu (xbu (xbu (xbu (xbu (xbu (xbu (xbu (xbu jf0 fa_laid) fa_maps) jf3) jf4) jf5) fa_stops) jf7) fa_knobs) jf9) jf10) jf11) jf12) jf13) jf14) jf15) jf16) jf17) jf18) jf19) jf20) jf21) jf22) jf23) fa_heard) fa_enter) jf26) jf27) jf28) jf29) jf30) jf31)
    (of_decide_eq_true (by kernel_rfl)) (by unfold Func.isWrapper; first | (rw [if_pos (by decide +kernel)]; kernel_rfl) | (rw [if_neg (by decide +kernel)]; exact ⟨rfl, rfl⟩))
    (fun os started H enc _ => lifted os started H enc)
theorem proved : Rows.TopTruthsSaid := over
end Go.Proofs.YtkjjdgnkelchfaaGreat.topTruths
