import Derived.ChangeOld
import Derived.ShutString
import Derived.Test.YtehbahobkgoapaaPCK4
namespace Go.Proofs.Ytehbahobkgoapaa.chainKnown
open Go.ChangeShapes Go.WideShapes Go.ChangeAt Go.RowKit
open Go.ChangeMaps (open_string shut_string)
set_option linter.unusedVariables false
set_option linter.unusedSimpArgs false
theorem and_tt {a b : Bool} (h : a = true) (k : b = true) : (a && b) = true := by rw [h, k]; rfl
theorem own : ownKnob Try.prog.godebug = none := by kernel_rfl
theorem laidOut : laidOutB Try.prog = true := by kernel_rfl
set_option maxRecDepth 100000 in
theorem contract (H : Type) (enc : TypeId × Value → H) (W : World) (base : Nat) (args : Array Value) (ds gs : List (DataW H)) (before : List MemPlace)
    (hval0 : ∀ (j : Nat) t v, Try.f24.params[j]? = some t → args[j]? = some v → Value.okWide Try.prog W .any base t v)
    (hW : DataW.Whole enc Try.prog Try.f24.params.toList Rows.chainKnownSpec.vars false W args.toList ds gs before) 
    (hsz0 : (DataW.weightsEach Try.prog (Try.f24.params.toList ++ Rows.chainKnownSpec.plain.varTypes Try.prog) (ds ++ gs)).all (· ≤ reachBytes) = true) :
    Calls Try.prog 24 args W fun e W' => ∃ v, e = .returned v ∧ Rows.chainKnownSpec.post enc Try.prog Try.f24 false true false false W args v W' := by
  have hval : ∀ (j : Nat) t v, Try.f24.params[j]? = some t → args[j]? = some v → Value.okWide Try.prog W .any base t v := hval0
  have hsz : (DataW.weightsEach Try.prog (Try.f24.params.toList ++ Rows.chainKnownSpec.plain.varTypes Try.prog) (ds ++ gs)).all (· ≤ reachBytes) = true := hsz0
  have hW' := hW
  obtain ⟨p, q, hA0, hV, rfl, hfz, hnd⟩ := hW
  have hA : DataW.TrodAll enc Try.prog W 0 (fun _ => true) true Try.f24.params.toList args.toList ds p := hA0
  rw [Try.params24] at hA hval hsz
  obtain ⟨hargs, rfl, rfl⟩ := trodAll_nil hA
  obtain rfl : args = #[] := by cases args; simp_all
  obtain ⟨rfl, rfl⟩ := trodVars_none hV
  clear hA0 hval0
  refine (chain_known W).mono fun e W' ⟨he, bel⟩ => ?_
  subst he
  exact ⟨_, rfl, _, _, _, [], _, [], hW', trodAll_mk1 (shut_bool Try.underlying4 _), trodAll_mk0, rfl, bel.frame _, fun h => by cases h⟩
set_option maxRecDepth 100000 in
theorem lifted (os : Os) (started : os.Started) (H : Type) (enc : TypeId × Value → H) :
    ReturnsInHanded {} Try.checked os 24 .any (Rows.chainKnownSpec.pre6 enc Try.prog Try.f24 Rows.chainKnownRow.domain false) (Rows.chainKnownSpec.post enc Try.prog Try.f24 false true false false) := by
  refine returnsInHanded_of_change_sized (C := Try.checked) own started (by kernel_rfl) Try.func24
    (ChangeSpec.witness6 (enc := enc) (C := Try.checked) false ⟨#[], #[], []⟩ 8 (by kernel_rfl) (by kernel_rfl) (by kernel_rfl) (by kernel_rfl)) ?_
  intro W base args ds gs before hval0 hW hcnd hsz0 _
  exact contract H enc W base args ds gs before hval0 hW hsz0
theorem jf0 : (Rows.chainKnownRow.wf (OpenSpec.ofChange Rows.chainKnownSpec) : Bool) = true := by kernel_rfl
theorem jf3 : (Try.f24.params.all (Try.prog.readableRec ·) : Bool) = true := by kernel_rfl
theorem jf4 : (namedTie Try.prog Rows.chainKnownRow.named Rows.chainKnownSpec.vars : Bool) = true := by kernel_rfl
theorem jf5 : ((Rows.chainKnownRow.stops == []) : Bool) = true := by kernel_rfl
theorem jf7 : ((Rows.chainKnownRow.knobs == []) : Bool) = true := by kernel_rfl
theorem jf9 : ((Rows.chainKnownRow.inPlace == Try.prog.inPlace 24) : Bool) = true := by kernel_rfl
theorem jf10 : ((Rows.chainKnownRow.unfollowed == Try.prog.unfollowed 24) : Bool) = true := by kernel_rfl
theorem jf11 : ((Rows.chainKnownRow.recurses == Try.prog.recurses 24) : Bool) = true := by kernel_rfl
theorem jf12 : ((Rows.chainKnownRow.named == Try.prog.varsNamed 24) : Bool) = true := by kernel_rfl
theorem jf13 : ((Rows.chainKnownRow.maps == (Try.f24.params.toList ++ Rows.chainKnownSpec.plain.varTypes Try.prog).any (Try.prog.mapsRec ·)) : Bool) = true := by kernel_rfl
theorem jf14 : ((Rows.chainKnownRow.ifaces == (Try.f24.params.toList ++ Rows.chainKnownSpec.plain.varTypes Try.prog).any (Try.prog.ifacesRec ·)) : Bool) = true := by kernel_rfl
theorem jf15 : ((Rows.chainKnownRow.mapsOut == Try.prog.mapsAmong Try.f24.resultTypes.toList) : Bool) = true := by kernel_rfl
theorem jf16 : ((Rows.chainKnownRow.loops == (Try.f24.params.toList ++ Rows.chainKnownSpec.plain.varTypes Try.prog).any (Try.prog.loopsFrom ·)) : Bool) = true := by kernel_rfl
theorem jf17 : ((Rows.chainKnownRow.wideKeys == (Try.f24.params.toList ++ Rows.chainKnownSpec.plain.varTypes Try.prog ++ Try.f24.resultTypes.toList).any (Try.prog.wideKeysFrom ·)) : Bool) = true := by kernel_rfl
theorem jf18 : (Rows.chainKnownSpec.vars.all (Try.prog.varReadable ·) : Bool) = true := by kernel_rfl
theorem jf19 : (Try.f24.resultTypes.all (fun t => Try.prog.readableRec t && decide (t < Try.prog.types.size)) : Bool) = true := by kernel_rfl
theorem jf20 : ((Rows.chainKnownRow.ifacesOut == Try.f24.resultTypes.toList.any (Try.prog.ifacesRec ·)) : Bool) = true := by kernel_rfl
theorem jf21 : ((Rows.chainKnownRow.loopsOut == Try.f24.resultTypes.toList.any (Try.prog.loopsFrom ·)) : Bool) = true := by kernel_rfl
theorem jf22 : (Rows.chainKnownRow.plainKeys == Try.prog.plainKeys) = true := by rw [fa_keys]; rfl
theorem jf23 : (Rows.chainKnownRow.shortTexts.isNone : Bool) = true := by kernel_rfl
theorem jf26 : (Rows.chainKnownRow.lifted == Try.prog.liftsFinal) = true := by rw [fa_lifts]; rfl
theorem jf27 : (Try.prog.make == some Rows.chainKnownRow.make) = true := by rw [fa_make]; rfl
theorem jf28 : ((Rows.chainKnownRow.kinds == (if Rows.chainKnownRow.domain.isEmpty then [] else Try.f24.params.toList.map fun t => match Try.prog.underlying t with | some (.int k) => some k | _ => none)) : Bool) = true := by kernel_rfl
theorem jf29 : ((Rows.chainKnownRow.pinned == Rows.chainKnownRow.pinnedBy) : Bool) = true := by kernel_rfl
theorem jf30 : ((Rows.chainKnownRow.veiled == (Try.f24.params.toList ++ Rows.chainKnownSpec.plain.varTypes Try.prog ++ Try.f24.resultTypes.toList).any (Try.prog.veiledRec ·)) : Bool) = true := by kernel_rfl
theorem jf31 : (Rows.chainKnownRow.veiledFits Try.prog Try.f24.params.toList (Try.f24.params.toList ++ Rows.chainKnownSpec.plain.varTypes Try.prog ++ Try.f24.resultTypes.toList) : Bool) = true := by kernel_rfl
set_option maxRecDepth 100000 in
theorem over : Rows.chainKnownRow.holds Try.pinned (OpenSpec.ofChange Rows.chainKnownSpec) :=
  OpenClaim.holds_of_wide 24 Try.f24 rfl rfl rfl rfl rfl rfl rfl ⟨rfl, rfl, rfl, rfl, rfl⟩ rfl rfl rfl rfl rfl (by kernel_rfl) Try.func24
    (and_tt (and_tt (and_tt (and_tt (and_tt (and_tt (and_tt (and_tt (and_tt (and_tt (and_tt (and_tt (and_tt (and_tt (and_tt (and_tt (and_tt (and_tt (and_tt (and_tt (and_tt (and_tt (and_tt (and_tt (and_tt (and_tt (and_tt (and_tt (and_tt (and_tt (and_tt jf0 fa_laid) fa_maps) jf3) jf4) jf5) fa_stops) jf7) fa_knobs) jf9) jf10) jf11) jf12) jf13) jf14) jf15) jf16) jf17) jf18) jf19) jf20) jf21) jf22) jf23) fa_heard) fa_enter) jf26) jf27) jf28) jf29) jf30) jf31)
    (of_decide_eq_true (by kernel_rfl)) (by unfold Func.isWrapper; first | (rw [if_pos (by decide +kernel)]; kernel_rfl) | (rw [if_neg (by decide +kernel)]; exact ⟨rfl, rfl⟩))
    (fun os started H enc _ => lifted os started H enc)
theorem proved : Rows.ChainKnownSaid := over
end Go.Proofs.Ytehbahobkgoapaa.chainKnown
