import Derived.ChangeOld
import Derived.ShutString
import Derived.Test.YtehbahobkgoapaaPCT5
namespace Go.Proofs.Ytehbahobkgoapaa.chainScript
open Go.ChangeShapes Go.WideShapes Go.ChangeAt Go.RowKit
open Go.ChangeMaps (open_string shut_string)
set_option linter.unusedVariables false
set_option linter.unusedSimpArgs false
theorem and_tt {a b : Bool} (h : a = true) (k : b = true) : (a && b) = true := by rw [h, k]; rfl
theorem own : ownKnob Try.prog.godebug = none := by kernel_rfl
theorem laidOut : laidOutB Try.prog = true := by kernel_rfl
set_option maxRecDepth 100000 in
theorem contract (H : Type) (enc : TypeId × Value → H) (W : World) (base : Nat) (args : Array Value) (ds gs : List (DataW H)) (before : List MemPlace)
    (hval0 : ∀ (j : Nat) t v, Try.f22.params[j]? = some t → args[j]? = some v → Value.okWide Try.prog W .any base t v)
    (hW : DataW.Whole enc Try.prog Try.f22.params.toList Rows.chainScriptSpec.vars false W args.toList ds gs before) 
    (hsz0 : (DataW.weightsEach Try.prog (Try.f22.params.toList ++ Rows.chainScriptSpec.plain.varTypes Try.prog) (ds ++ gs)).all (· ≤ reachBytes) = true) :
    Calls Try.prog 22 args W fun e W' => ∃ v, e = .returned v ∧ Rows.chainScriptSpec.post enc Try.prog Try.f22 false true false false W args v W' := by
  have hval : ∀ (j : Nat) t v, Try.f22.params[j]? = some t → args[j]? = some v → Value.okWide Try.prog W .any base t v := hval0
  have hsz : (DataW.weightsEach Try.prog (Try.f22.params.toList ++ Rows.chainScriptSpec.plain.varTypes Try.prog) (ds ++ gs)).all (· ≤ reachBytes) = true := hsz0
  have hW' := hW
  obtain ⟨p, q, hA0, hV, rfl, hfz, hnd⟩ := hW
  have hA : DataW.TrodAll enc Try.prog W 0 (fun _ => true) true Try.f22.params.toList args.toList ds p := hA0
  rw [Try.params22] at hA hval hsz
  obtain ⟨v0, vs0, d0, ds0, p0, q0, hargs, rfl, rfl, h0, r0⟩ := trodAll_cons hA
  obtain ⟨v1, vs1, d1, ds1, p1, q1, rfl, rfl, rfl, h1, r1⟩ := trodAll_cons r0
  obtain ⟨rfl, rfl, rfl⟩ := trodAll_nil r1
  obtain rfl : args = #[v0, v1] := by cases args; simp_all
  obtain ⟨rfl, rfl⟩ := trodVars_none hV
  have k0_ := h0
  have lt0 : ∀ x ∈ p0, x.block < W.heap.size := by obtain ⟨m, hm⟩ := k0_; exact DataW.trod_lt m _ _ _ hm
  obtain ⟨A0, n0, c0, ls0, rfl, hl0⟩ := open_digs Try.underlying132 Try.underlying25 Try.underlying5 (by kernel_rfl) (by kernel_rfl) (hval 0 132 v0 rfl rfl) h0
  have k1_ := h1
  have lt1 : ∀ x ∈ p1, x.block < W.heap.size := by obtain ⟨m, hm⟩ := k1_; exact DataW.trod_lt m _ _ _ hm
  obtain ⟨A1, n1, c1, xs1, rfl, ha1⟩ := open_lacts Try.underlying147 Try.underlying141 (by kernel_rfl) rfl rfl rfl rfl (by kernel_rfl) (by kernel_rfl) (by kernel_rfl) (by kernel_rfl) Try.underlying3 Try.underlying3 Try.underlying3 Try.underlying25 Try.underlying5 (by kernel_rfl) (hval 1 147 v1 rfl rfl) h1
  clear hA0 hval0
  refine (chain_script A0 n0 c0 ls0 A1 n1 c1 xs1 W hl0 ha1).mono fun e W' ⟨he, bel⟩ => ?_
  subst he
  exact ⟨_, rfl, _, _, _, [], _, [], hW', trodAll_mk1 (shut_bool Try.underlying4 _), (trodAll_cons_mk (Below.trod laidOut (by kernel_rfl) (of_decide_eq_true (by kernel_rfl)) k0_ bel lt0) (trodAll_cons_mk (Below.trod laidOut (by kernel_rfl) (of_decide_eq_true (by kernel_rfl)) k1_ bel lt1) trodAll_mk0)), rfl, bel.frame _, fun h => by cases h⟩
set_option maxRecDepth 100000 in
theorem lifted (os : Os) (started : os.Started) (H : Type) (enc : TypeId × Value → H) :
    ReturnsInHanded {} Try.checked os 22 .any (Rows.chainScriptSpec.pre6 enc Try.prog Try.f22 Rows.chainScriptRow.domain false) (Rows.chainScriptSpec.post enc Try.prog Try.f22 false true false false) := by
  refine returnsInHanded_of_change_sized (C := Try.checked) own started (by kernel_rfl) Try.func22
    (ChangeSpec.witness6 (enc := enc) (C := Try.checked) false ⟨#[], #[.slice none 0 0, .slice none 0 0], []⟩ 8 (by kernel_rfl) (by kernel_rfl) (by kernel_rfl) (by kernel_rfl)) ?_
  intro W base args ds gs before hval0 hW hcnd hsz0 _
  exact contract H enc W base args ds gs before hval0 hW hsz0
theorem jf0 : (Rows.chainScriptRow.wf (OpenSpec.ofChange Rows.chainScriptSpec) : Bool) = true := by kernel_rfl
theorem jf3 : (Try.f22.params.all (Try.prog.readableRec ·) : Bool) = true := by kernel_rfl
theorem jf4 : (namedTie Try.prog Rows.chainScriptRow.named Rows.chainScriptSpec.vars : Bool) = true := by kernel_rfl
theorem jf5 : ((Rows.chainScriptRow.stops == []) : Bool) = true := by kernel_rfl
theorem jf7 : ((Rows.chainScriptRow.knobs == []) : Bool) = true := by kernel_rfl
theorem jf9 : ((Rows.chainScriptRow.inPlace == Try.prog.inPlace 22) : Bool) = true := by kernel_rfl
theorem jf10 : ((Rows.chainScriptRow.unfollowed == Try.prog.unfollowed 22) : Bool) = true := by kernel_rfl
theorem jf11 : ((Rows.chainScriptRow.recurses == Try.prog.recurses 22) : Bool) = true := by kernel_rfl
theorem jf12 : ((Rows.chainScriptRow.named == Try.prog.varsNamed 22) : Bool) = true := by kernel_rfl
theorem jf13 : ((Rows.chainScriptRow.maps == (Try.f22.params.toList ++ Rows.chainScriptSpec.plain.varTypes Try.prog).any (Try.prog.mapsRec ·)) : Bool) = true := by kernel_rfl
theorem jf14 : ((Rows.chainScriptRow.ifaces == (Try.f22.params.toList ++ Rows.chainScriptSpec.plain.varTypes Try.prog).any (Try.prog.ifacesRec ·)) : Bool) = true := by kernel_rfl
theorem jf15 : ((Rows.chainScriptRow.mapsOut == Try.prog.mapsAmong Try.f22.resultTypes.toList) : Bool) = true := by kernel_rfl
theorem jf16 : ((Rows.chainScriptRow.loops == (Try.f22.params.toList ++ Rows.chainScriptSpec.plain.varTypes Try.prog).any (Try.prog.loopsFrom ·)) : Bool) = true := by kernel_rfl
theorem jf17 : ((Rows.chainScriptRow.wideKeys == (Try.f22.params.toList ++ Rows.chainScriptSpec.plain.varTypes Try.prog ++ Try.f22.resultTypes.toList).any (Try.prog.wideKeysFrom ·)) : Bool) = true := by kernel_rfl
theorem jf18 : (Rows.chainScriptSpec.vars.all (Try.prog.varReadable ·) : Bool) = true := by kernel_rfl
theorem jf19 : (Try.f22.resultTypes.all (fun t => Try.prog.readableRec t && decide (t < Try.prog.types.size)) : Bool) = true := by kernel_rfl
theorem jf20 : ((Rows.chainScriptRow.ifacesOut == Try.f22.resultTypes.toList.any (Try.prog.ifacesRec ·)) : Bool) = true := by kernel_rfl
theorem jf21 : ((Rows.chainScriptRow.loopsOut == Try.f22.resultTypes.toList.any (Try.prog.loopsFrom ·)) : Bool) = true := by kernel_rfl
theorem jf22 : (Rows.chainScriptRow.plainKeys == Try.prog.plainKeys) = true := by rw [fa_keys]; rfl
theorem jf23 : (Rows.chainScriptRow.shortTexts.isNone : Bool) = true := by kernel_rfl
theorem jf26 : (Rows.chainScriptRow.lifted == Try.prog.liftsFinal) = true := by rw [fa_lifts]; rfl
theorem jf27 : (Try.prog.make == some Rows.chainScriptRow.make) = true := by rw [fa_make]; rfl
theorem jf28 : ((Rows.chainScriptRow.kinds == (if Rows.chainScriptRow.domain.isEmpty then [] else Try.f22.params.toList.map fun t => match Try.prog.underlying t with | some (.int k) => some k | _ => none)) : Bool) = true := by kernel_rfl
theorem jf29 : ((Rows.chainScriptRow.pinned == Rows.chainScriptRow.pinnedBy) : Bool) = true := by kernel_rfl
theorem jf30 : ((Rows.chainScriptRow.veiled == (Try.f22.params.toList ++ Rows.chainScriptSpec.plain.varTypes Try.prog ++ Try.f22.resultTypes.toList).any (Try.prog.veiledRec ·)) : Bool) = true := by kernel_rfl
theorem jf31 : (Rows.chainScriptRow.veiledFits Try.prog Try.f22.params.toList (Try.f22.params.toList ++ Rows.chainScriptSpec.plain.varTypes Try.prog ++ Try.f22.resultTypes.toList) : Bool) = true := by kernel_rfl
set_option maxRecDepth 100000 in
theorem over : Rows.chainScriptRow.holds Try.pinned (OpenSpec.ofChange Rows.chainScriptSpec) :=
  OpenClaim.holds_of_wide 22 Try.f22 rfl rfl rfl rfl rfl rfl rfl ⟨rfl, rfl, rfl, rfl, rfl⟩ rfl rfl rfl rfl rfl (by kernel_rfl) Try.func22
    (and_tt (and_tt (and_tt (and_tt (and_tt (and_tt (and_tt (and_tt (and_tt (and_tt (and_tt (and_tt (and_tt (and_tt (and_tt (and_tt (and_tt (and_tt (and_tt (and_tt (and_tt (and_tt (and_tt (and_tt (and_tt (and_tt (and_tt (and_tt (and_tt (and_tt (and_tt jf0 fa_laid) fa_maps) jf3) jf4) jf5) fa_stops) jf7) fa_knobs) jf9) jf10) jf11) jf12) jf13) jf14) jf15) jf16) jf17) jf18) jf19) jf20) jf21) jf22) jf23) fa_heard) fa_enter) jf26) jf27) jf28) jf29) jf30) jf31)
    (of_decide_eq_true (by kernel_rfl)) (by unfold Func.isWrapper; first | (rw [if_pos (by decide +kernel)]; kernel_rfl) | (rw [if_neg (by decide +kernel)]; exact ⟨rfl, rfl⟩))
    (fun os started H enc _ => lifted os started H enc)
theorem proved : Rows.ChainScriptSaid := over
end Go.Proofs.Ytehbahobkgoapaa.chainScript
