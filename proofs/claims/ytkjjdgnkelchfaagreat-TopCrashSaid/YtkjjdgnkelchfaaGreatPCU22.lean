/- TopCrash answers true for every input, and every argument reads behind the call as it read before. Conditions: none beyond the row's own (arguments that a machine can hold). -/
import Derived.Test.YtkjjdgnkelchfaaGreatPCU21
set_option linter.unusedSimpArgs false
set_option linter.unusedVariables false
set_option maxRecDepth 100000
set_option maxHeartbeats 16000000
namespace Go.Proofs.YtkjjdgnkelchfaaGreat.topCrash
open Go.ChangeShapes Go.WideShapes Go.ChangeAt Go.RowKit
open Go.ChangeMaps (open_string shut_string)
theorem xbk {a b : Bool} (h : a = true) (k : b = true) : (a && b) = true := by rw [h, k]; rfl
theorem own : ownKnob Tryz.prog.godebug = none := by kernel_rfl
theorem laidOut : laidOutB Tryz.prog = true := by kernel_rfl
theorem contract (H : Type) (enc : TypeId × Value → H) (W : World) (base : Nat) (args : Array Value) (ds gs : List (DataW H)) (before : List MemPlace)
    (hval0 : ∀ (j : Nat) t v, Tryz.f4.params[j]? = some t → args[j]? = some v → Value.okWide Tryz.prog W .any base t v)
    (hW : DataW.Whole enc Tryz.prog Tryz.f4.params.toList Rows.topCrashSpec.vars false W args.toList ds gs before) 
    (hsz0 : (DataW.weightsEach Tryz.prog (Tryz.f4.params.toList ++ Rows.topCrashSpec.plain.varTypes Tryz.prog) (ds ++ gs)).all (· ≤ reachBytes) = true) :
    Calls Tryz.prog 4 args W fun e W' => ∃ v, e = .returned v ∧ Rows.topCrashSpec.post enc Tryz.prog Tryz.f4 false true false false W args v W' := by
  have hval : ∀ (j : Nat) t v, Tryz.f4.params[j]? = some t → args[j]? = some v → Value.okWide Tryz.prog W .any base t v := hval0; have hsz : (DataW.weightsEach Tryz.prog (Tryz.f4.params.toList ++ Rows.topCrashSpec.plain.varTypes Tryz.prog) (ds ++ gs)).all (· ≤ reachBytes) = true := hsz0; have hW' := hW; obtain ⟨p, q, hA0, hV, rfl, hfz, hnd⟩ := hW; have hA : DataW.TrodAll enc Tryz.prog W 0 (fun _ => true) true Tryz.f4.params.toList args.toList ds p := hA0; rw [Tryz.params4] at hA hval hsz; obtain ⟨v0, vs0, d0, ds0, p0, q0, hargs, rfl, rfl, h0, r0⟩ := trodAll_cons hA; obtain ⟨v1, vs1, d1, ds1, p1, q1, rfl, rfl, rfl, h1, r1⟩ := trodAll_cons r0; obtain ⟨v2, vs2, d2, ds2, p2, q2, rfl, rfl, rfl, h2, r2⟩ := trodAll_cons r1; obtain ⟨rfl, rfl, rfl⟩ := trodAll_nil r2; obtain rfl : args = #[v0, v1, v2] := by cases args; simp_all
  obtain ⟨rfl, rfl⟩ := trodVars_none hV; have k0_ := h0; have lt0 : ∀ x ∈ p0, x.block < W.heap.size := by obtain ⟨m, hm⟩ := k0_; exact DataW.trod_lt m _ _ _ hm
  obtain ⟨A0, n0, c0, xs0, rfl, hw0, bd0⟩ := open_wrs Tryz.underlying64 (by kernel_rfl) Tryz.underlying73 (by kernel_rfl) bt (by kernel_rfl) (by kernel_rfl) (by kernel_rfl) Tryz.underlying80 rfl rfl rfl rfl rfl Tryz.underlying4 (by kernel_rfl) (by kernel_rfl) (hval 0 64 v0 rfl rfl) h0 (fun n hn => by have := List.all_eq_true.1 hsz _ (DataW.weights_mem_each (j := 0) (t := 64) rfl rfl n hn); simpa using this); have k1_ := h1; have lt1 : ∀ x ∈ p1, x.block < W.heap.size := by obtain ⟨m, hm⟩ := k1_; exact DataW.trod_lt m _ _ _ hm
  obtain ⟨a1, rfl, rfl, rfl, w1⟩ := open_int Tryz.underlying3 (hval 1 3 v1 rfl rfl) h1; have bd1 := i64_wf w1; have k2_ := h2; have lt2 : ∀ x ∈ p2, x.block < W.heap.size := by obtain ⟨m, hm⟩ := k2_; exact DataW.trod_lt m _ _ _ hm
  obtain ⟨a2, rfl, rfl, rfl, w2⟩ := open_int Tryz.underlying3 (hval 2 3 v2 rfl rfl) h2; have bd2 := i64_wf w2; clear hA0 hval0; refine (crash_ok A0 n0 c0 xs0 hw0 bd0 a1 a2 bd1 bd2).mono fun e W' ⟨he, bel⟩ => ?_
  subst he; exact ⟨_, rfl, _, _, _, [], _, [], hW', trodAll_mk1 (shut_bool Tryz.underlying4 _), (trodAll_cons_mk (Below.trod laidOut (by kernel_rfl) (of_decide_eq_true (by kernel_rfl)) k0_ bel lt0) (trodAll_cons_mk (Below.trod laidOut (by kernel_rfl) (of_decide_eq_true (by kernel_rfl)) k1_ bel lt1) (trodAll_cons_mk (Below.trod laidOut (by kernel_rfl) (of_decide_eq_true (by kernel_rfl)) k2_ bel lt2) trodAll_mk0))), rfl, bel.frame _, fun h => by cases h⟩
theorem lifted (os : Os) (started : os.Started) (H : Type) (enc : TypeId × Value → H) :
    ReturnsInHanded {} Tryz.checked os 4 .any (Rows.topCrashSpec.pre6 enc Tryz.prog Tryz.f4 Rows.topCrashRow.domain false) (Rows.topCrashSpec.post enc Tryz.prog Tryz.f4 false true false false) := by
  refine returnsInHanded_of_change_sized (C := Tryz.checked) own started (by kernel_rfl) Tryz.func4
    (ChangeSpec.witness6 (enc := enc) (C := Tryz.checked) false ⟨#[], #[.slice none 0 0, .int .i64 0, .int .i64 0], []⟩ 8 (by kernel_rfl) (by kernel_rfl) (by kernel_rfl) (by kernel_rfl)) ?_
  intro W base args ds gs before hval0 hW hcnd hsz0 _; exact contract H enc W base args ds gs before hval0 hW hsz0
theorem jf0 : (Rows.topCrashRow.wf (OpenSpec.ofChange Rows.topCrashSpec) : Bool) = true := by kernel_rfl
theorem jf3 : (Tryz.f4.params.all (Tryz.prog.readableRec ·) : Bool) = true := by kernel_rfl
theorem jf4 : (namedTie Tryz.prog Rows.topCrashRow.named Rows.topCrashSpec.vars : Bool) = true := by kernel_rfl
theorem jf5 : ((Rows.topCrashRow.stops == []) : Bool) = true := by kernel_rfl
theorem jf7 : ((Rows.topCrashRow.knobs == []) : Bool) = true := by kernel_rfl
theorem jf9 : ((Rows.topCrashRow.inPlace == Tryz.prog.inPlace 4) : Bool) = true := by kernel_rfl
theorem jf10 : ((Rows.topCrashRow.unfollowed == Tryz.prog.unfollowed 4) : Bool) = true := by kernel_rfl
theorem jf11 : ((Rows.topCrashRow.recurses == Tryz.prog.recurses 4) : Bool) = true := by kernel_rfl
theorem jf12 : ((Rows.topCrashRow.named == Tryz.prog.varsNamed 4) : Bool) = true := by kernel_rfl
theorem jf13 : ((Rows.topCrashRow.maps == (Tryz.f4.params.toList ++ Rows.topCrashSpec.plain.varTypes Tryz.prog).any (Tryz.prog.mapsRec ·)) : Bool) = true := by kernel_rfl
theorem jf14 : ((Rows.topCrashRow.ifaces == (Tryz.f4.params.toList ++ Rows.topCrashSpec.plain.varTypes Tryz.prog).any (Tryz.prog.ifacesRec ·)) : Bool) = true := by kernel_rfl
theorem jf15 : ((Rows.topCrashRow.mapsOut == Tryz.prog.mapsAmong Tryz.f4.resultTypes.toList) : Bool) = true := by kernel_rfl
theorem jf16 : ((Rows.topCrashRow.loops == (Tryz.f4.params.toList ++ Rows.topCrashSpec.plain.varTypes Tryz.prog).any (Tryz.prog.loopsFrom ·)) : Bool) = true := by kernel_rfl
theorem jf17 : ((Rows.topCrashRow.wideKeys == (Tryz.f4.params.toList ++ Rows.topCrashSpec.plain.varTypes Tryz.prog ++ Tryz.f4.resultTypes.toList).any (Tryz.prog.wideKeysFrom ·)) : Bool) = true := by kernel_rfl
theorem jf18 : (Rows.topCrashSpec.vars.all (Tryz.prog.varReadable ·) : Bool) = true := by kernel_rfl
theorem jf19 : (Tryz.f4.resultTypes.all (fun t => Tryz.prog.readableRec t && decide (t < Tryz.prog.types.size)) : Bool) = true := by kernel_rfl
theorem jf20 : ((Rows.topCrashRow.ifacesOut == Tryz.f4.resultTypes.toList.any (Tryz.prog.ifacesRec ·)) : Bool) = true := by kernel_rfl
theorem jf21 : ((Rows.topCrashRow.loopsOut == Tryz.f4.resultTypes.toList.any (Tryz.prog.loopsFrom ·)) : Bool) = true := by kernel_rfl
theorem jf22 : (Rows.topCrashRow.plainKeys == Tryz.prog.plainKeys) = true := by rw [fa_keys]; rfl
theorem jf23 : (Rows.topCrashRow.shortTexts.isNone : Bool) = true := by kernel_rfl
theorem jf26 : (Rows.topCrashRow.lifted == Tryz.prog.liftsFinal) = true := by rw [fa_lifts]; rfl
theorem jf27 : (Tryz.prog.make == some Rows.topCrashRow.make) = true := by rw [fa_make]; rfl
theorem jf28 : ((Rows.topCrashRow.kinds == (if Rows.topCrashRow.domain.isEmpty then [] else Tryz.f4.params.toList.map fun t => match Tryz.prog.underlying t with | some (.int k) => some k | _ => none)) : Bool) = true := by kernel_rfl
theorem jf29 : ((Rows.topCrashRow.pinned == Rows.topCrashRow.pinnedBy) : Bool) = true := by kernel_rfl
theorem jf30 : ((Rows.topCrashRow.veiled == (Tryz.f4.params.toList ++ Rows.topCrashSpec.plain.varTypes Tryz.prog ++ Tryz.f4.resultTypes.toList).any (Tryz.prog.veiledRec ·)) : Bool) = true := by kernel_rfl
theorem jf31 : (Rows.topCrashRow.veiledFits Tryz.prog Tryz.f4.params.toList (Tryz.f4.params.toList ++ Rows.topCrashSpec.plain.varTypes Tryz.prog ++ Tryz.f4.resultTypes.toList) : Bool) = true := by kernel_rfl
theorem over : Rows.topCrashRow.holds Tryz.pinned (OpenSpec.ofChange Rows.topCrashSpec) :=
  OpenClaim.holds_of_wide 4 Tryz.f4 rfl rfl rfl rfl rfl rfl rfl ⟨rfl, rfl, rfl, rfl, rfl⟩ rfl rfl rfl rfl rfl (by kernel_rfl) Tryz.func4
    (xbk (xbk (xbk (xbk (xbk (xbk (xbk (xbk (xbk (xbk (xbk (xbk (xbk (xbk (xbk (xbk (xbk (xbk (xbk (xbk (xbk (xbk (xbk (xbk (xbk (xbk (xbk (xbk (xbk (xbk (xbk jf0 fa_laid) fa_maps) jf3) jf4) jf5) fa_stops) jf7) fa_knobs) jf9) jf10) jf11) jf12) jf13) jf14) jf15) jf16) jf17) jf18) jf19) jf20) jf21) jf22) jf23) fa_heard) fa_enter) jf26) jf27) jf28) jf29) jf30) jf31)
    (of_decide_eq_true (by kernel_rfl)) (by unfold Func.isWrapper; first | (rw [if_pos (by decide +kernel)]; kernel_rfl) | (rw [if_neg (by decide +kernel)]; exact ⟨rfl, rfl⟩))
    (fun os started H enc _ => lifted os started H enc)
theorem proved : Rows.TopCrashSaid := over
end Go.Proofs.YtkjjdgnkelchfaaGreat.topCrash
