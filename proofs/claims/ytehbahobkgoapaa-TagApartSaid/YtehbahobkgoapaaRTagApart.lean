/- The statement of TagApart, out of its walk: true for every input; each argument reads behind the call as it read before. -/
import Derived.Test.YtehbahobkgoapaaFa
import Derived.Test.YtehbahobkgoapaaOr
import Derived.Test.YtehbahobkgoapaaTc
import Derived.ChangeOld
import Derived.ShutString
namespace Go.Proofs.Ytehbahobkgoapaa.tagApart
open Go.ChangeShapes Go.WideShapes Go.ChangeAt Go.RowKit
open Go.ChangeMaps (open_string shut_string)
set_option linter.unusedVariables false
set_option linter.unusedSimpArgs false

theorem and_tt {a b : Bool} (h : a = true) (k : b = true) : (a && b) = true := by rw [h, k]; rfl
theorem own : ownKnob Try.prog.godebug = none := by kernel_rfl
theorem laidOut : laidOutB Try.prog = true := by kernel_rfl

set_option maxRecDepth 100000 in
theorem contract (H : Type) (enc : TypeId × Value → H) (W : World) (base : Nat) (args : Array Value) (ds gs : List (DataW H)) (before : List MemPlace)
    (hval0 : ∀ (j : Nat) t v, Try.f18.params[j]? = some t → args[j]? = some v → Value.okWide Try.prog W .any base t v)
    (hW : DataW.Whole enc Try.prog Try.f18.params.toList Rows.tagApartSpec.vars false W args.toList ds gs before) 
    (hsz0 : (DataW.weightsEach Try.prog (Try.f18.params.toList ++ Rows.tagApartSpec.plain.varTypes Try.prog) (ds ++ gs)).all (· ≤ reachBytes) = true) :
    Calls Try.prog 18 args W fun e W' => ∃ v, e = .returned v ∧ Rows.tagApartSpec.post enc Try.prog Try.f18 false true false false W args v W' := by
  have hval : ∀ (j : Nat) t v, Try.f18.params[j]? = some t → args[j]? = some v → Value.okWide Try.prog W .any base t v := hval0
  have hsz : (DataW.weightsEach Try.prog (Try.f18.params.toList ++ Rows.tagApartSpec.plain.varTypes Try.prog) (ds ++ gs)).all (· ≤ reachBytes) = true := hsz0
  have hW' := hW
  obtain ⟨p, q, hA0, hV, rfl, hfz, hnd⟩ := hW
  have hA : DataW.TrodAll enc Try.prog W 0 (fun _ => true) true Try.f18.params.toList args.toList ds p := hA0
  rw [Try.params18] at hA hval hsz
  obtain ⟨v0, vs0, d0, ds0, p0, q0, hargs, rfl, rfl, h0, r0⟩ := trodAll_cons hA
  obtain ⟨v1, vs1, d1, ds1, p1, q1, rfl, rfl, rfl, h1, r1⟩ := trodAll_cons r0
  obtain ⟨v2, vs2, d2, ds2, p2, q2, rfl, rfl, rfl, h2, r2⟩ := trodAll_cons r1
  obtain ⟨v3, vs3, d3, ds3, p3, q3, rfl, rfl, rfl, h3, r3⟩ := trodAll_cons r2
  obtain ⟨v4, vs4, d4, ds4, p4, q4, rfl, rfl, rfl, h4, r4⟩ := trodAll_cons r3
  obtain ⟨v5, vs5, d5, ds5, p5, q5, rfl, rfl, rfl, h5, r5⟩ := trodAll_cons r4
  obtain ⟨rfl, rfl, rfl⟩ := trodAll_nil r5
  obtain rfl : args = #[v0, v1, v2, v3, v4, v5] := by cases args; simp_all
  obtain ⟨rfl, rfl⟩ := trodVars_none hV
  have k0_ := h0
  have lt0 : ∀ x ∈ p0, x.block < W.heap.size := by obtain ⟨m, hm⟩ := k0_; exact DataW.trod_lt m _ _ _ hm
  obtain ⟨k0, lk0, rfl⟩ := open_arr Try.underlying23 Try.underlying5 (by kernel_rfl) (by kernel_rfl : Try.prog.cellsOf 23 = 32) (hval 0 23 v0 rfl rfl) h0
  have k1_ := h1
  have lt1 : ∀ x ∈ p1, x.block < W.heap.size := by obtain ⟨m, hm⟩ := k1_; exact DataW.trod_lt m _ _ _ hm
  obtain ⟨k1, lk1, rfl⟩ := open_arr Try.underlying23 Try.underlying5 (by kernel_rfl) (by kernel_rfl : Try.prog.cellsOf 23 = 32) (hval 1 23 v1 rfl rfl) h1
  have k2_ := h2
  have lt2 : ∀ x ∈ p2, x.block < W.heap.size := by obtain ⟨m, hm⟩ := k2_; exact DataW.trod_lt m _ _ _ hm
  obtain ⟨A2, n2, c2, l2, rfl, len2, cap2, rd2, dd2⟩ := open_bytes bt (by kernel_rfl) (hval 2 24 v2 rfl rfl) h2
  have bd2 : c2 ≤ 140737488351232 := by
    rcases dd2 with ⟨_, h⟩ | ⟨es, sp, hd, h⟩
    · omega
    · have := sized_slice hsz (j := 2) (t := 24) (e := 5) (elems := es) (spare := sp) rfl (by rw [hd]; rfl) Try.underlying24
      rw [show Try.prog.bytesOf 5 = 1 by kernel_rfl] at this; simp only [reachBytes] at this; omega
  have k3_ := h3
  have lt3 : ∀ x ∈ p3, x.block < W.heap.size := by obtain ⟨m, hm⟩ := k3_; exact DataW.trod_lt m _ _ _ hm
  obtain ⟨A3, n3, c3, l3, rfl, len3, cap3, rd3, dd3⟩ := open_bytes bt (by kernel_rfl) (hval 3 24 v3 rfl rfl) h3
  have bd3 : c3 ≤ 140737488351232 := by
    rcases dd3 with ⟨_, h⟩ | ⟨es, sp, hd, h⟩
    · omega
    · have := sized_slice hsz (j := 3) (t := 24) (e := 5) (elems := es) (spare := sp) rfl (by rw [hd]; rfl) Try.underlying24
      rw [show Try.prog.bytesOf 5 = 1 by kernel_rfl] at this; simp only [reachBytes] at this; omega
  have k4_ := h4
  have lt4 : ∀ x ∈ p4, x.block < W.heap.size := by obtain ⟨m, hm⟩ := k4_; exact DataW.trod_lt m _ _ _ hm
  obtain ⟨k4, lk4, rfl⟩ := open_arr Try.underlying25 Try.underlying5 (by kernel_rfl) (by kernel_rfl : Try.prog.cellsOf 25 = 32) (hval 4 25 v4 rfl rfl) h4
  have k5_ := h5
  have lt5 : ∀ x ∈ p5, x.block < W.heap.size := by obtain ⟨m, hm⟩ := k5_; exact DataW.trod_lt m _ _ _ hm
  obtain ⟨k5, lk5, rfl⟩ := open_arr Try.underlying25 Try.underlying5 (by kernel_rfl) (by kernel_rfl : Try.prog.cellsOf 25 = 32) (hval 5 25 v5 rfl rfl) h5
  clear hA0 hval0
  refine (tag_apart k0 k1 A2 n2 c2 l2 A3 n3 c3 l3 k4 k5 W lk0 lk1 lk4 lk5 rd2 len2 cap2 bd2 rd3 len3 cap3 bd3).mono fun e W' ⟨he, bel⟩ => ?_
  subst he
  exact ⟨_, rfl, _, _, _, [], _, [], hW', trodAll_mk1 (shut_bool Try.underlying4 _), (trodAll_cons_mk (Below.trod laidOut (by kernel_rfl) (of_decide_eq_true (by kernel_rfl)) k0_ bel lt0) (trodAll_cons_mk (Below.trod laidOut (by kernel_rfl) (of_decide_eq_true (by kernel_rfl)) k1_ bel lt1) (trodAll_cons_mk (Below.trod laidOut (by kernel_rfl) (of_decide_eq_true (by kernel_rfl)) k2_ bel lt2) (trodAll_cons_mk (Below.trod laidOut (by kernel_rfl) (of_decide_eq_true (by kernel_rfl)) k3_ bel lt3) (trodAll_cons_mk (Below.trod laidOut (by kernel_rfl) (of_decide_eq_true (by kernel_rfl)) k4_ bel lt4) (trodAll_cons_mk (Below.trod laidOut (by kernel_rfl) (of_decide_eq_true (by kernel_rfl)) k5_ bel lt5) trodAll_mk0)))))), rfl, bel.frame _, fun h => by cases h⟩

set_option maxRecDepth 100000 in
theorem lifted (os : Os) (started : os.Started) (H : Type) (enc : TypeId × Value → H) :
    ReturnsInHanded {} Try.checked os 18 .any (Rows.tagApartSpec.pre6 enc Try.prog Try.f18 Rows.tagApartRow.domain false) (Rows.tagApartSpec.post enc Try.prog Try.f18 false true false false) := by
  refine returnsInHanded_of_change_sized (C := Try.checked) own started (by kernel_rfl) Try.func18
    (ChangeSpec.witness6 (enc := enc) (C := Try.checked) false ⟨#[], #[.agg #[.int .u8 0, .int .u8 0, .int .u8 0, .int .u8 0, .int .u8 0, .int .u8 0, .int .u8 0, .int .u8 0, .int .u8 0, .int .u8 0, .int .u8 0, .int .u8 0, .int .u8 0, .int .u8 0, .int .u8 0, .int .u8 0, .int .u8 0, .int .u8 0, .int .u8 0, .int .u8 0, .int .u8 0, .int .u8 0, .int .u8 0, .int .u8 0, .int .u8 0, .int .u8 0, .int .u8 0, .int .u8 0, .int .u8 0, .int .u8 0, .int .u8 0, .int .u8 0], .agg #[.int .u8 0, .int .u8 0, .int .u8 0, .int .u8 0, .int .u8 0, .int .u8 0, .int .u8 0, .int .u8 0, .int .u8 0, .int .u8 0, .int .u8 0, .int .u8 0, .int .u8 0, .int .u8 0, .int .u8 0, .int .u8 0, .int .u8 0, .int .u8 0, .int .u8 0, .int .u8 0, .int .u8 0, .int .u8 0, .int .u8 0, .int .u8 0, .int .u8 0, .int .u8 0, .int .u8 0, .int .u8 0, .int .u8 0, .int .u8 0, .int .u8 0, .int .u8 0], .slice none 0 0, .slice none 0 0, .agg #[.int .u8 0, .int .u8 0, .int .u8 0, .int .u8 0, .int .u8 0, .int .u8 0, .int .u8 0, .int .u8 0, .int .u8 0, .int .u8 0, .int .u8 0, .int .u8 0, .int .u8 0, .int .u8 0, .int .u8 0, .int .u8 0, .int .u8 0, .int .u8 0, .int .u8 0, .int .u8 0, .int .u8 0, .int .u8 0, .int .u8 0, .int .u8 0, .int .u8 0, .int .u8 0, .int .u8 0, .int .u8 0, .int .u8 0, .int .u8 0, .int .u8 0, .int .u8 0], .agg #[.int .u8 0, .int .u8 0, .int .u8 0, .int .u8 0, .int .u8 0, .int .u8 0, .int .u8 0, .int .u8 0, .int .u8 0, .int .u8 0, .int .u8 0, .int .u8 0, .int .u8 0, .int .u8 0, .int .u8 0, .int .u8 0, .int .u8 0, .int .u8 0, .int .u8 0, .int .u8 0, .int .u8 0, .int .u8 0, .int .u8 0, .int .u8 0, .int .u8 0, .int .u8 0, .int .u8 0, .int .u8 0, .int .u8 0, .int .u8 0, .int .u8 0, .int .u8 0]], []⟩ 8 (by kernel_rfl) (by kernel_rfl) (by kernel_rfl) (by kernel_rfl)) ?_
  intro W base args ds gs before hval0 hW hcnd hsz0 _
  exact contract H enc W base args ds gs before hval0 hW hsz0

theorem jf0 : (Rows.tagApartRow.wf (OpenSpec.ofChange Rows.tagApartSpec) : Bool) = true := by kernel_rfl
theorem jf3 : (Try.f18.params.all (Try.prog.readableRec ·) : Bool) = true := by kernel_rfl
theorem jf4 : (namedTie Try.prog Rows.tagApartRow.named Rows.tagApartSpec.vars : Bool) = true := by kernel_rfl
theorem jf5 : ((Rows.tagApartRow.stops == []) : Bool) = true := by kernel_rfl
theorem jf7 : ((Rows.tagApartRow.knobs == []) : Bool) = true := by kernel_rfl
theorem jf9 : ((Rows.tagApartRow.inPlace == Try.prog.inPlace 18) : Bool) = true := by kernel_rfl
theorem jf10 : ((Rows.tagApartRow.unfollowed == Try.prog.unfollowed 18) : Bool) = true := by kernel_rfl
theorem jf11 : ((Rows.tagApartRow.recurses == Try.prog.recurses 18) : Bool) = true := by kernel_rfl
theorem jf12 : ((Rows.tagApartRow.named == Try.prog.varsNamed 18) : Bool) = true := by kernel_rfl
theorem jf13 : ((Rows.tagApartRow.maps == (Try.f18.params.toList ++ Rows.tagApartSpec.plain.varTypes Try.prog).any (Try.prog.mapsRec ·)) : Bool) = true := by kernel_rfl
theorem jf14 : ((Rows.tagApartRow.ifaces == (Try.f18.params.toList ++ Rows.tagApartSpec.plain.varTypes Try.prog).any (Try.prog.ifacesRec ·)) : Bool) = true := by kernel_rfl
theorem jf15 : ((Rows.tagApartRow.mapsOut == Try.prog.mapsAmong Try.f18.resultTypes.toList) : Bool) = true := by kernel_rfl
theorem jf16 : ((Rows.tagApartRow.loops == (Try.f18.params.toList ++ Rows.tagApartSpec.plain.varTypes Try.prog).any (Try.prog.loopsFrom ·)) : Bool) = true := by kernel_rfl
theorem jf17 : ((Rows.tagApartRow.wideKeys == (Try.f18.params.toList ++ Rows.tagApartSpec.plain.varTypes Try.prog ++ Try.f18.resultTypes.toList).any (Try.prog.wideKeysFrom ·)) : Bool) = true := by kernel_rfl
theorem jf18 : (Rows.tagApartSpec.vars.all (Try.prog.varReadable ·) : Bool) = true := by kernel_rfl
theorem jf19 : (Try.f18.resultTypes.all (fun t => Try.prog.readableRec t && decide (t < Try.prog.types.size)) : Bool) = true := by kernel_rfl
theorem jf20 : ((Rows.tagApartRow.ifacesOut == Try.f18.resultTypes.toList.any (Try.prog.ifacesRec ·)) : Bool) = true := by kernel_rfl
theorem jf21 : ((Rows.tagApartRow.loopsOut == Try.f18.resultTypes.toList.any (Try.prog.loopsFrom ·)) : Bool) = true := by kernel_rfl
theorem jf22 : (Rows.tagApartRow.plainKeys == Try.prog.plainKeys) = true := by rw [fa_keys]; rfl
theorem jf23 : (Rows.tagApartRow.shortTexts.isNone : Bool) = true := by kernel_rfl
theorem jf26 : (Rows.tagApartRow.lifted == Try.prog.liftsFinal) = true := by rw [fa_lifts]; rfl
theorem jf27 : (Try.prog.make == some Rows.tagApartRow.make) = true := by rw [fa_make]; rfl
theorem jf28 : ((Rows.tagApartRow.kinds == (if Rows.tagApartRow.domain.isEmpty then [] else Try.f18.params.toList.map fun t => match Try.prog.underlying t with | some (.int k) => some k | _ => none)) : Bool) = true := by kernel_rfl
theorem jf29 : ((Rows.tagApartRow.pinned == Rows.tagApartRow.pinnedBy) : Bool) = true := by kernel_rfl
theorem jf30 : ((Rows.tagApartRow.veiled == (Try.f18.params.toList ++ Rows.tagApartSpec.plain.varTypes Try.prog ++ Try.f18.resultTypes.toList).any (Try.prog.veiledRec ·)) : Bool) = true := by kernel_rfl
theorem jf31 : (Rows.tagApartRow.veiledFits Try.prog Try.f18.params.toList (Try.f18.params.toList ++ Rows.tagApartSpec.plain.varTypes Try.prog ++ Try.f18.resultTypes.toList) : Bool) = true := by kernel_rfl
set_option maxRecDepth 100000 in
theorem over : Rows.tagApartRow.holds Try.pinned (OpenSpec.ofChange Rows.tagApartSpec) :=
  OpenClaim.holds_of_wide 18 Try.f18 rfl rfl rfl rfl rfl rfl rfl ⟨rfl, rfl, rfl, rfl, rfl⟩ rfl rfl rfl rfl rfl (by kernel_rfl) Try.func18
    (and_tt (and_tt (and_tt (and_tt (and_tt (and_tt (and_tt (and_tt (and_tt (and_tt (and_tt (and_tt (and_tt (and_tt (and_tt (and_tt (and_tt (and_tt (and_tt (and_tt (and_tt (and_tt (and_tt (and_tt (and_tt (and_tt (and_tt (and_tt (and_tt (and_tt (and_tt jf0 fa_laid) fa_maps) jf3) jf4) jf5) fa_stops) jf7) fa_knobs) jf9) jf10) jf11) jf12) jf13) jf14) jf15) jf16) jf17) jf18) jf19) jf20) jf21) jf22) jf23) fa_heard) fa_enter) jf26) jf27) jf28) jf29) jf30) jf31)
    (of_decide_eq_true (by kernel_rfl)) (by unfold Func.isWrapper; first | (rw [if_pos (by decide +kernel)]; kernel_rfl) | (rw [if_neg (by decide +kernel)]; exact ⟨rfl, rfl⟩))
    (fun os started H enc _ => lifted os started H enc)

theorem proved : Rows.TagApartSaid := over
end Go.Proofs.Ytehbahobkgoapaa.tagApart
