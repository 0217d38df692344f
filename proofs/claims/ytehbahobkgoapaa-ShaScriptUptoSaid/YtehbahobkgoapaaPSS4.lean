import Derived.Deep.CondSized
import Derived.JoinedCond
import Derived.Test.YtehbahobkgoapaaPSS3
namespace Go.Proofs.Ytehbahobkgoapaa.shaScript
open Go.ChangeShapes Go.WideShapes Go.ChangeAt Go.RowKit
open Go.ChangeMaps (open_string shut_string)
set_option linter.unusedVariables false
set_option linter.unusedSimpArgs false
theorem and_tt {a b : Bool} (h : a = true) (k : b = true) : (a && b) = true := by rw [h, k]; rfl
theorem own : ownKnob Try.prog.godebug = none := by kernel_rfl
theorem laidOut : laidOutB Try.prog = true := by kernel_rfl
set_option maxRecDepth 100000 in
theorem contract (H : Type) (enc : TypeId × Value → H) (W : World) (base : Nat) (args : Array Value) (ds gs : List (DataW H)) (before : List MemPlace)
    (hval0 : ∀ (j : Nat) t v, Try.f13.params[j]? = some t → args[j]? = some v → Value.okWide Try.prog W .any base t v)
    (hW : DataW.Whole enc Try.prog Try.f13.params.toList Rows.shaScriptSpec.vars false W args.toList ds gs before) (hk : Rows.uptoSmall H (ds ++ gs) = true) 
    (hsz0 : (DataW.weightsEach Try.prog (Try.f13.params.toList ++ Rows.shaScriptSpec.plain.varTypes Try.prog) (ds ++ gs)).all (· ≤ reachBytes) = true) :
    Calls Try.prog 13 args W fun e W' => ∃ v, e = .returned v ∧ Rows.shaScriptSpec.post enc Try.prog Try.f13 false true false false W args v W' := by
  have hval : ∀ (j : Nat) t v, Try.f13.params[j]? = some t → args[j]? = some v → Value.okWide Try.prog W .any base t v := hval0
  have hsz : (DataW.weightsEach Try.prog (Try.f13.params.toList ++ Rows.shaScriptSpec.plain.varTypes Try.prog) (ds ++ gs)).all (· ≤ reachBytes) = true := hsz0
  have hW' := hW
  obtain ⟨p, q, hA0, hV, rfl, hfz, hnd⟩ := hW
  have hA : DataW.TrodAll enc Try.prog W 0 (fun _ => true) true Try.f13.params.toList args.toList ds p := hA0
  rw [Try.params13] at hA hval hsz
  obtain ⟨v0, vs0, d0, ds0, p0, q0, hargs, rfl, rfl, h0, r0⟩ := trodAll_cons hA
  obtain ⟨rfl, rfl, rfl⟩ := trodAll_nil r0
  obtain rfl : args = #[v0] := by cases args; simp_all
  obtain ⟨rfl, rfl⟩ := trodVars_none hV
  have k0_ := h0
  have lt0 : ∀ x ∈ p0, x.block < W.heap.size := by obtain ⟨m, hm⟩ := k0_; exact DataW.trod_lt m _ _ _ hm
  obtain ⟨A0, n0, c0, xs0, rfl, ha0, hs0⟩ := open_sacts bt (by kernel_rfl) Try.underlying103 Try.underlying109 (by kernel_rfl) rfl rfl rfl rfl (by kernel_rfl) (by kernel_rfl) (by kernel_rfl) (by kernel_rfl) Try.underlying5 Try.underlying5 Try.underlying5 rfl (hval 0 103 v0 rfl rfl) h0
  have bs0 := Nat.le_trans hs0 (bulks.one_bound hk (by simp))
  clear hA0 hval0
  refine (sha_script A0 n0 c0 xs0 W ha0 bs0).mono fun e W' ⟨he, bel⟩ => ?_
  subst he
  exact ⟨_, rfl, _, _, _, [], _, [], hW', trodAll_mk1 (shut_bool Try.underlying4 _), (trodAll_cons_mk (Below.trod laidOut (by kernel_rfl) (of_decide_eq_true (by kernel_rfl)) k0_ bel lt0) trodAll_mk0), rfl, bel.frame _, fun h => by cases h⟩
set_option maxRecDepth 100000 in
theorem lifted (os : Os) (started : os.Started) (H : Type) (enc : TypeId × Value → H) (F : Stop.Interp) :
    ReturnsInHanded {} Try.checked os 13 .any ((Rows.OpenSpec.upto Rows.shaScriptSpec).pre6 enc Try.prog Try.f13 Rows.shaScriptUptoRow.domain false) (((Rows.OpenSpec.upto Rows.shaScriptSpec).at F).post enc Try.prog Try.f13 false true false false) := by
  refine returnsInHanded_of_cond_sized (C := Try.checked) (s := Rows.OpenSpec.upto Rows.shaScriptSpec) (k := Rows.uptoSmall) rfl own started (by kernel_rfl) Try.func13
    (OpenSpec.witness (enc := enc) (C := Try.checked) (s := Rows.OpenSpec.upto Rows.shaScriptSpec) (k := Rows.uptoSmall) rfl false ⟨#[], #[.slice none 0 0], []⟩ 8 (by kernel_rfl) (by kernel_rfl) (by kernel_rfl)
      (x := ([.nil], [], [])) (by kernel_rfl) rfl (by kernel_rfl)) ?_
  intro W base args ds gs before hval0 hW _ hk hsz0 _
  exact contract H enc W base args ds gs before hval0 hW hk hsz0
theorem jf0 : (Rows.shaScriptUptoRow.wf (OpenSpec.ofChange (Rows.OpenSpec.upto Rows.shaScriptSpec).bare) : Bool) = true := by kernel_rfl
theorem jf3 : (Try.f13.params.all (Try.prog.readableRec ·) : Bool) = true := by kernel_rfl
theorem jf4 : (namedTie Try.prog Rows.shaScriptUptoRow.named (Rows.OpenSpec.upto Rows.shaScriptSpec).bare.vars : Bool) = true := by kernel_rfl
theorem jf5 : ((Rows.shaScriptUptoRow.stops == []) : Bool) = true := by kernel_rfl
theorem jf7 : ((Rows.shaScriptUptoRow.knobs == []) : Bool) = true := by kernel_rfl
theorem jf9 : ((Rows.shaScriptUptoRow.inPlace == Try.prog.inPlace 13) : Bool) = true := by kernel_rfl
theorem jf10 : ((Rows.shaScriptUptoRow.unfollowed == Try.prog.unfollowed 13) : Bool) = true := by kernel_rfl
theorem jf11 : ((Rows.shaScriptUptoRow.recurses == Try.prog.recurses 13) : Bool) = true := by kernel_rfl
theorem jf12 : ((Rows.shaScriptUptoRow.named == Try.prog.varsNamed 13) : Bool) = true := by kernel_rfl
theorem jf13 : ((Rows.shaScriptUptoRow.maps == (Try.f13.params.toList ++ (Rows.OpenSpec.upto Rows.shaScriptSpec).bare.plain.varTypes Try.prog).any (Try.prog.mapsRec ·)) : Bool) = true := by kernel_rfl
theorem jf14 : ((Rows.shaScriptUptoRow.ifaces == (Try.f13.params.toList ++ (Rows.OpenSpec.upto Rows.shaScriptSpec).bare.plain.varTypes Try.prog).any (Try.prog.ifacesRec ·)) : Bool) = true := by kernel_rfl
theorem jf15 : ((Rows.shaScriptUptoRow.mapsOut == Try.prog.mapsAmong Try.f13.resultTypes.toList) : Bool) = true := by kernel_rfl
theorem jf16 : ((Rows.shaScriptUptoRow.loops == (Try.f13.params.toList ++ (Rows.OpenSpec.upto Rows.shaScriptSpec).bare.plain.varTypes Try.prog).any (Try.prog.loopsFrom ·)) : Bool) = true := by kernel_rfl
theorem jf17 : ((Rows.shaScriptUptoRow.wideKeys == (Try.f13.params.toList ++ (Rows.OpenSpec.upto Rows.shaScriptSpec).bare.plain.varTypes Try.prog ++ Try.f13.resultTypes.toList).any (Try.prog.wideKeysFrom ·)) : Bool) = true := by kernel_rfl
theorem jf18 : ((Rows.OpenSpec.upto Rows.shaScriptSpec).bare.vars.all (Try.prog.varReadable ·) : Bool) = true := by kernel_rfl
theorem jf19 : (Try.f13.resultTypes.all (fun t => Try.prog.readableRec t && decide (t < Try.prog.types.size)) : Bool) = true := by kernel_rfl
theorem jf20 : ((Rows.shaScriptUptoRow.ifacesOut == Try.f13.resultTypes.toList.any (Try.prog.ifacesRec ·)) : Bool) = true := by kernel_rfl
theorem jf21 : ((Rows.shaScriptUptoRow.loopsOut == Try.f13.resultTypes.toList.any (Try.prog.loopsFrom ·)) : Bool) = true := by kernel_rfl
theorem jf22 : (Rows.shaScriptUptoRow.plainKeys == Try.prog.plainKeys) = true := by rw [fa_keys]; rfl
theorem jf23 : (Rows.shaScriptUptoRow.shortTexts.isNone : Bool) = true := by kernel_rfl
theorem jf26 : (Rows.shaScriptUptoRow.lifted == Try.prog.liftsFinal) = true := by rw [fa_lifts]; rfl
theorem jf27 : (Try.prog.make == some Rows.shaScriptUptoRow.make) = true := by rw [fa_make]; rfl
theorem jf28 : ((Rows.shaScriptUptoRow.kinds == (if Rows.shaScriptUptoRow.domain.isEmpty then [] else Try.f13.params.toList.map fun t => match Try.prog.underlying t with | some (.int k) => some k | _ => none)) : Bool) = true := by kernel_rfl
theorem jf29 : ((Rows.shaScriptUptoRow.pinned == Rows.shaScriptUptoRow.pinnedBy) : Bool) = true := by kernel_rfl
theorem jf30 : ((Rows.shaScriptUptoRow.veiled == (Try.f13.params.toList ++ (Rows.OpenSpec.upto Rows.shaScriptSpec).bare.plain.varTypes Try.prog ++ Try.f13.resultTypes.toList).any (Try.prog.veiledRec ·)) : Bool) = true := by kernel_rfl
theorem jf31 : (Rows.shaScriptUptoRow.veiledFits Try.prog Try.f13.params.toList (Try.f13.params.toList ++ (Rows.OpenSpec.upto Rows.shaScriptSpec).bare.plain.varTypes Try.prog ++ Try.f13.resultTypes.toList) : Bool) = true := by kernel_rfl
set_option maxRecDepth 100000 in
theorem over : Rows.shaScriptUptoRow.holds Try.pinned (Rows.OpenSpec.upto Rows.shaScriptSpec) :=
  OpenClaim.holds_of_cond 13 Try.f13 rfl rfl rfl rfl rfl rfl rfl ⟨rfl, rfl, rfl, rfl, rfl⟩ rfl rfl rfl rfl rfl (by kernel_rfl) Try.func13
    (and_tt (and_tt (and_tt (and_tt (and_tt (and_tt (and_tt (and_tt (and_tt (and_tt (and_tt (and_tt (and_tt (and_tt (and_tt (and_tt (and_tt (and_tt (and_tt (and_tt (and_tt (and_tt (and_tt (and_tt (and_tt (and_tt (and_tt (and_tt (and_tt (and_tt (and_tt jf0 fa_laid) fa_maps) jf3) jf4) jf5) fa_stops) jf7) fa_knobs) jf9) jf10) jf11) jf12) jf13) jf14) jf15) jf16) jf17) jf18) jf19) jf20) jf21) jf22) jf23) fa_heard) fa_enter) jf26) jf27) jf28) jf29) jf30) jf31)
    (of_decide_eq_true (by kernel_rfl)) (by unfold Func.isWrapper; first | (rw [if_pos (by decide +kernel)]; kernel_rfl) | (rw [if_neg (by decide +kernel)]; exact ⟨rfl, rfl⟩))
    (fun os started H enc _ F => lifted os started H enc F)
theorem proved : Rows.ShaScriptUptoSaid := over
end Go.Proofs.Ytehbahobkgoapaa.shaScript
