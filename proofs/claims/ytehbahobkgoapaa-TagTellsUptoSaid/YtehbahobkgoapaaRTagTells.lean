/- The statement of TagTells, out of its walk: true for every input of bulk at most 1048576; each argument reads behind the call as it read before. -/
import Derived.Test.YtehbahobkgoapaaFa
import Derived.Test.YtehbahobkgoapaaOr
import Derived.Test.YtehbahobkgoapaaTe
import Derived.Deep.CondSized
import Derived.JoinedCond
namespace Go.Proofs.Ytehbahobkgoapaa.tagTells
open Go.ChangeShapes Go.WideShapes Go.ChangeAt Go.RowKit
open Go.ChangeMaps (open_string shut_string)
set_option linter.unusedVariables false
set_option linter.unusedSimpArgs false

theorem and_tt {a b : Bool} (h : a = true) (k : b = true) : (a && b) = true := by rw [h, k]; rfl
theorem own : ownKnob Try.prog.godebug = none := by kernel_rfl
theorem laidOut : laidOutB Try.prog = true := by kernel_rfl

set_option maxRecDepth 100000 in
theorem contract (H : Type) (enc : TypeId × Value → H) (W : World) (base : Nat) (args : Array Value) (ds gs : List (DataW H)) (before : List MemPlace)
    (hval0 : ∀ (j : Nat) t v, Try.f14.params[j]? = some t → args[j]? = some v → Value.okWide Try.prog W .any base t v)
    (hW : DataW.Whole enc Try.prog Try.f14.params.toList Rows.tagTellsSpec.vars false W args.toList ds gs before) (hk : Rows.uptoSmall H (ds ++ gs) = true) 
    (hsz0 : (DataW.weightsEach Try.prog (Try.f14.params.toList ++ Rows.tagTellsSpec.plain.varTypes Try.prog) (ds ++ gs)).all (· ≤ reachBytes) = true) :
    Calls Try.prog 14 args W fun e W' => ∃ v, e = .returned v ∧ Rows.tagTellsSpec.post enc Try.prog Try.f14 false true false false W args v W' := by
  have hval : ∀ (j : Nat) t v, Try.f14.params[j]? = some t → args[j]? = some v → Value.okWide Try.prog W .any base t v := hval0
  have hsz : (DataW.weightsEach Try.prog (Try.f14.params.toList ++ Rows.tagTellsSpec.plain.varTypes Try.prog) (ds ++ gs)).all (· ≤ reachBytes) = true := hsz0
  have hW' := hW
  obtain ⟨p, q, hA0, hV, rfl, hfz, hnd⟩ := hW
  have hA : DataW.TrodAll enc Try.prog W 0 (fun _ => true) true Try.f14.params.toList args.toList ds p := hA0
  rw [Try.params14] at hA hval hsz
  obtain ⟨v0, vs0, d0, ds0, p0, q0, hargs, rfl, rfl, h0, r0⟩ := trodAll_cons hA
  obtain ⟨v1, vs1, d1, ds1, p1, q1, rfl, rfl, rfl, h1, r1⟩ := trodAll_cons r0
  obtain ⟨v2, vs2, d2, ds2, p2, q2, rfl, rfl, rfl, h2, r2⟩ := trodAll_cons r1
  obtain ⟨v3, vs3, d3, ds3, p3, q3, rfl, rfl, rfl, h3, r3⟩ := trodAll_cons r2
  obtain ⟨v4, vs4, d4, ds4, p4, q4, rfl, rfl, rfl, h4, r4⟩ := trodAll_cons r3
  obtain ⟨v5, vs5, d5, ds5, p5, q5, rfl, rfl, rfl, h5, r5⟩ := trodAll_cons r4
  obtain ⟨rfl, rfl, rfl⟩ := trodAll_nil r5
  obtain rfl : args = #[v0, v1, v2, v3, v4, v5] := by cases args; simp_all
  obtain ⟨rfl, rfl⟩ := trodVars_none hV
  have k0_ := h0
  have lt0 : ∀ x ∈ p0, x.block < W.heap.size := by obtain ⟨m, hm⟩ := k0_; exact DataW.trod_lt m _ _ _ hm
  obtain ⟨a0, rfl, rfl, rfl, w0⟩ := open_int Try.underlying5 (hval 0 5 v0 rfl rfl) h0
  have k1_ := h1
  have lt1 : ∀ x ∈ p1, x.block < W.heap.size := by obtain ⟨m, hm⟩ := k1_; exact DataW.trod_lt m _ _ _ hm
  obtain ⟨A1, n1, c1, us1, l1, rfl, len1, cap1, rd1, all1, blk1⟩ := open_rows bt Try.underlying30 (by kernel_rfl) (by kernel_rfl) (hval 1 30 v1 rfl rfl) h1
  have k2_ := h2
  have lt2 : ∀ x ∈ p2, x.block < W.heap.size := by obtain ⟨m, hm⟩ := k2_; exact DataW.trod_lt m _ _ _ hm
  obtain ⟨k2, lk2, rfl⟩ := open_arr Try.underlying23 Try.underlying5 (by kernel_rfl) (by kernel_rfl : Try.prog.cellsOf 23 = 32) (hval 2 23 v2 rfl rfl) h2
  have k3_ := h3
  have lt3 : ∀ x ∈ p3, x.block < W.heap.size := by obtain ⟨m, hm⟩ := k3_; exact DataW.trod_lt m _ _ _ hm
  obtain ⟨A3, n3, c3, l3, rfl, len3, cap3, rd3, dd3⟩ := open_bytes bt (by kernel_rfl) (hval 3 24 v3 rfl rfl) h3
  have bd3 : c3 ≤ 140737488351232 := by
    rcases dd3 with ⟨_, h⟩ | ⟨es, sp, hd, h⟩
    · omega
    · have := sized_slice hsz (j := 3) (t := 24) (e := 5) (elems := es) (spare := sp) rfl (by rw [hd]; rfl) Try.underlying24
      rw [show Try.prog.bytesOf 5 = 1 by kernel_rfl] at this; simp only [reachBytes] at this; omega
  have k4_ := h4
  have lt4 : ∀ x ∈ p4, x.block < W.heap.size := by obtain ⟨m, hm⟩ := k4_; exact DataW.trod_lt m _ _ _ hm
  obtain ⟨k4, lk4, rfl⟩ := open_arr Try.underlying25 Try.underlying5 (by kernel_rfl) (by kernel_rfl : Try.prog.cellsOf 25 = 32) (hval 4 25 v4 rfl rfl) h4
  have k5_ := h5
  have lt5 : ∀ x ∈ p5, x.block < W.heap.size := by obtain ⟨m, hm⟩ := k5_; exact DataW.trod_lt m _ _ _ hm
  obtain ⟨k5, lk5, rfl⟩ := open_arr Try.underlying25 Try.underlying5 (by kernel_rfl) (by kernel_rfl : Try.prog.cellsOf 25 = 32) (hval 5 25 v5 rfl rfl) h5
  have bd1 := Nat.le_trans blk1 (bulks.one_bound hk (by simp))
  have bu3 : c3 ≤ 1048576 := by
    rcases dd3 with ⟨_, h⟩ | ⟨es, sp, hd, h⟩
    · omega
    · have h1 := bulks.slice_le es sp
      have h2 := bulks.one_bound hk (d := d3) (by simp)
      rw [hd] at h2; omega
  clear hA0 hval0
  refine (tag_tells a0 w0 A1 n1 c1 us1 l1 k2 A3 n3 c3 l3 k4 k5 W rd1 all1 len1 bd1 lk2 rd3 len3 cap3 bu3 lk4 lk5).mono fun e W' ⟨he, bel⟩ => ?_
  subst he
  exact ⟨_, rfl, _, _, _, [], _, [], hW', trodAll_mk1 (shut_bool Try.underlying4 _), (trodAll_cons_mk (Below.trod laidOut (by kernel_rfl) (of_decide_eq_true (by kernel_rfl)) k0_ bel lt0) (trodAll_cons_mk (Below.trod laidOut (by kernel_rfl) (of_decide_eq_true (by kernel_rfl)) k1_ bel lt1) (trodAll_cons_mk (Below.trod laidOut (by kernel_rfl) (of_decide_eq_true (by kernel_rfl)) k2_ bel lt2) (trodAll_cons_mk (Below.trod laidOut (by kernel_rfl) (of_decide_eq_true (by kernel_rfl)) k3_ bel lt3) (trodAll_cons_mk (Below.trod laidOut (by kernel_rfl) (of_decide_eq_true (by kernel_rfl)) k4_ bel lt4) (trodAll_cons_mk (Below.trod laidOut (by kernel_rfl) (of_decide_eq_true (by kernel_rfl)) k5_ bel lt5) trodAll_mk0)))))), rfl, bel.frame _, fun h => by cases h⟩

set_option maxRecDepth 100000 in
theorem lifted (os : Os) (started : os.Started) (H : Type) (enc : TypeId × Value → H) (F : Stop.Interp) :
    ReturnsInHanded {} Try.checked os 14 .any ((Rows.OpenSpec.upto Rows.tagTellsSpec).pre6 enc Try.prog Try.f14 Rows.tagTellsUptoRow.domain false) (((Rows.OpenSpec.upto Rows.tagTellsSpec).at F).post enc Try.prog Try.f14 false true false false) := by
  refine returnsInHanded_of_cond_sized (C := Try.checked) (s := Rows.OpenSpec.upto Rows.tagTellsSpec) (k := Rows.uptoSmall) rfl own started (by kernel_rfl) Try.func14
    (OpenSpec.witness (enc := enc) (C := Try.checked) (s := Rows.OpenSpec.upto Rows.tagTellsSpec) (k := Rows.uptoSmall) rfl false ⟨#[], #[.int .u8 0, .slice none 0 0, .agg #[.int .u8 0, .int .u8 0, .int .u8 0, .int .u8 0, .int .u8 0, .int .u8 0, .int .u8 0, .int .u8 0, .int .u8 0, .int .u8 0, .int .u8 0, .int .u8 0, .int .u8 0, .int .u8 0, .int .u8 0, .int .u8 0, .int .u8 0, .int .u8 0, .int .u8 0, .int .u8 0, .int .u8 0, .int .u8 0, .int .u8 0, .int .u8 0, .int .u8 0, .int .u8 0, .int .u8 0, .int .u8 0, .int .u8 0, .int .u8 0, .int .u8 0, .int .u8 0], .slice none 0 0, .agg #[.int .u8 0, .int .u8 0, .int .u8 0, .int .u8 0, .int .u8 0, .int .u8 0, .int .u8 0, .int .u8 0, .int .u8 0, .int .u8 0, .int .u8 0, .int .u8 0, .int .u8 0, .int .u8 0, .int .u8 0, .int .u8 0, .int .u8 0, .int .u8 0, .int .u8 0, .int .u8 0, .int .u8 0, .int .u8 0, .int .u8 0, .int .u8 0, .int .u8 0, .int .u8 0, .int .u8 0, .int .u8 0, .int .u8 0, .int .u8 0, .int .u8 0, .int .u8 0], .agg #[.int .u8 0, .int .u8 0, .int .u8 0, .int .u8 0, .int .u8 0, .int .u8 0, .int .u8 0, .int .u8 0, .int .u8 0, .int .u8 0, .int .u8 0, .int .u8 0, .int .u8 0, .int .u8 0, .int .u8 0, .int .u8 0, .int .u8 0, .int .u8 0, .int .u8 0, .int .u8 0, .int .u8 0, .int .u8 0, .int .u8 0, .int .u8 0, .int .u8 0, .int .u8 0, .int .u8 0, .int .u8 0, .int .u8 0, .int .u8 0, .int .u8 0, .int .u8 0]], []⟩ 8 (by kernel_rfl) (by kernel_rfl) (by kernel_rfl)
      (x := ([.lit (.int .u8 0), .nil, .agg [.lit (.int .u8 0), .lit (.int .u8 0), .lit (.int .u8 0), .lit (.int .u8 0), .lit (.int .u8 0), .lit (.int .u8 0), .lit (.int .u8 0), .lit (.int .u8 0), .lit (.int .u8 0), .lit (.int .u8 0), .lit (.int .u8 0), .lit (.int .u8 0), .lit (.int .u8 0), .lit (.int .u8 0), .lit (.int .u8 0), .lit (.int .u8 0), .lit (.int .u8 0), .lit (.int .u8 0), .lit (.int .u8 0), .lit (.int .u8 0), .lit (.int .u8 0), .lit (.int .u8 0), .lit (.int .u8 0), .lit (.int .u8 0), .lit (.int .u8 0), .lit (.int .u8 0), .lit (.int .u8 0), .lit (.int .u8 0), .lit (.int .u8 0), .lit (.int .u8 0), .lit (.int .u8 0), .lit (.int .u8 0)], .nil, .agg [.lit (.int .u8 0), .lit (.int .u8 0), .lit (.int .u8 0), .lit (.int .u8 0), .lit (.int .u8 0), .lit (.int .u8 0), .lit (.int .u8 0), .lit (.int .u8 0), .lit (.int .u8 0), .lit (.int .u8 0), .lit (.int .u8 0), .lit (.int .u8 0), .lit (.int .u8 0), .lit (.int .u8 0), .lit (.int .u8 0), .lit (.int .u8 0), .lit (.int .u8 0), .lit (.int .u8 0), .lit (.int .u8 0), .lit (.int .u8 0), .lit (.int .u8 0), .lit (.int .u8 0), .lit (.int .u8 0), .lit (.int .u8 0), .lit (.int .u8 0), .lit (.int .u8 0), .lit (.int .u8 0), .lit (.int .u8 0), .lit (.int .u8 0), .lit (.int .u8 0), .lit (.int .u8 0), .lit (.int .u8 0)], .agg [.lit (.int .u8 0), .lit (.int .u8 0), .lit (.int .u8 0), .lit (.int .u8 0), .lit (.int .u8 0), .lit (.int .u8 0), .lit (.int .u8 0), .lit (.int .u8 0), .lit (.int .u8 0), .lit (.int .u8 0), .lit (.int .u8 0), .lit (.int .u8 0), .lit (.int .u8 0), .lit (.int .u8 0), .lit (.int .u8 0), .lit (.int .u8 0), .lit (.int .u8 0), .lit (.int .u8 0), .lit (.int .u8 0), .lit (.int .u8 0), .lit (.int .u8 0), .lit (.int .u8 0), .lit (.int .u8 0), .lit (.int .u8 0), .lit (.int .u8 0), .lit (.int .u8 0), .lit (.int .u8 0), .lit (.int .u8 0), .lit (.int .u8 0), .lit (.int .u8 0), .lit (.int .u8 0), .lit (.int .u8 0)]], [], [])) (by kernel_rfl) rfl (by kernel_rfl)) ?_
  intro W base args ds gs before hval0 hW _ hk hsz0 _
  exact contract H enc W base args ds gs before hval0 hW hk hsz0

theorem jf0 : (Rows.tagTellsUptoRow.wf (OpenSpec.ofChange (Rows.OpenSpec.upto Rows.tagTellsSpec).bare) : Bool) = true := by kernel_rfl
theorem jf3 : (Try.f14.params.all (Try.prog.readableRec ·) : Bool) = true := by kernel_rfl
theorem jf4 : (namedTie Try.prog Rows.tagTellsUptoRow.named (Rows.OpenSpec.upto Rows.tagTellsSpec).bare.vars : Bool) = true := by kernel_rfl
theorem jf5 : ((Rows.tagTellsUptoRow.stops == []) : Bool) = true := by kernel_rfl
theorem jf7 : ((Rows.tagTellsUptoRow.knobs == []) : Bool) = true := by kernel_rfl
theorem jf9 : ((Rows.tagTellsUptoRow.inPlace == Try.prog.inPlace 14) : Bool) = true := by kernel_rfl
theorem jf10 : ((Rows.tagTellsUptoRow.unfollowed == Try.prog.unfollowed 14) : Bool) = true := by kernel_rfl
theorem jf11 : ((Rows.tagTellsUptoRow.recurses == Try.prog.recurses 14) : Bool) = true := by kernel_rfl
theorem jf12 : ((Rows.tagTellsUptoRow.named == Try.prog.varsNamed 14) : Bool) = true := by kernel_rfl
theorem jf13 : ((Rows.tagTellsUptoRow.maps == (Try.f14.params.toList ++ (Rows.OpenSpec.upto Rows.tagTellsSpec).bare.plain.varTypes Try.prog).any (Try.prog.mapsRec ·)) : Bool) = true := by kernel_rfl
theorem jf14 : ((Rows.tagTellsUptoRow.ifaces == (Try.f14.params.toList ++ (Rows.OpenSpec.upto Rows.tagTellsSpec).bare.plain.varTypes Try.prog).any (Try.prog.ifacesRec ·)) : Bool) = true := by kernel_rfl
theorem jf15 : ((Rows.tagTellsUptoRow.mapsOut == Try.prog.mapsAmong Try.f14.resultTypes.toList) : Bool) = true := by kernel_rfl
theorem jf16 : ((Rows.tagTellsUptoRow.loops == (Try.f14.params.toList ++ (Rows.OpenSpec.upto Rows.tagTellsSpec).bare.plain.varTypes Try.prog).any (Try.prog.loopsFrom ·)) : Bool) = true := by kernel_rfl
theorem jf17 : ((Rows.tagTellsUptoRow.wideKeys == (Try.f14.params.toList ++ (Rows.OpenSpec.upto Rows.tagTellsSpec).bare.plain.varTypes Try.prog ++ Try.f14.resultTypes.toList).any (Try.prog.wideKeysFrom ·)) : Bool) = true := by kernel_rfl
theorem jf18 : ((Rows.OpenSpec.upto Rows.tagTellsSpec).bare.vars.all (Try.prog.varReadable ·) : Bool) = true := by kernel_rfl
theorem jf19 : (Try.f14.resultTypes.all (fun t => Try.prog.readableRec t && decide (t < Try.prog.types.size)) : Bool) = true := by kernel_rfl
theorem jf20 : ((Rows.tagTellsUptoRow.ifacesOut == Try.f14.resultTypes.toList.any (Try.prog.ifacesRec ·)) : Bool) = true := by kernel_rfl
theorem jf21 : ((Rows.tagTellsUptoRow.loopsOut == Try.f14.resultTypes.toList.any (Try.prog.loopsFrom ·)) : Bool) = true := by kernel_rfl
theorem jf22 : (Rows.tagTellsUptoRow.plainKeys == Try.prog.plainKeys) = true := by rw [fa_keys]; rfl
theorem jf23 : (Rows.tagTellsUptoRow.shortTexts.isNone : Bool) = true := by kernel_rfl
theorem jf26 : (Rows.tagTellsUptoRow.lifted == Try.prog.liftsFinal) = true := by rw [fa_lifts]; rfl
theorem jf27 : (Try.prog.make == some Rows.tagTellsUptoRow.make) = true := by rw [fa_make]; rfl
theorem jf28 : ((Rows.tagTellsUptoRow.kinds == (if Rows.tagTellsUptoRow.domain.isEmpty then [] else Try.f14.params.toList.map fun t => match Try.prog.underlying t with | some (.int k) => some k | _ => none)) : Bool) = true := by kernel_rfl
theorem jf29 : ((Rows.tagTellsUptoRow.pinned == Rows.tagTellsUptoRow.pinnedBy) : Bool) = true := by kernel_rfl
theorem jf30 : ((Rows.tagTellsUptoRow.veiled == (Try.f14.params.toList ++ (Rows.OpenSpec.upto Rows.tagTellsSpec).bare.plain.varTypes Try.prog ++ Try.f14.resultTypes.toList).any (Try.prog.veiledRec ·)) : Bool) = true := by kernel_rfl
theorem jf31 : (Rows.tagTellsUptoRow.veiledFits Try.prog Try.f14.params.toList (Try.f14.params.toList ++ (Rows.OpenSpec.upto Rows.tagTellsSpec).bare.plain.varTypes Try.prog ++ Try.f14.resultTypes.toList) : Bool) = true := by kernel_rfl
set_option maxRecDepth 100000 in
theorem over : Rows.tagTellsUptoRow.holds Try.pinned (Rows.OpenSpec.upto Rows.tagTellsSpec) :=
  OpenClaim.holds_of_cond 14 Try.f14 rfl rfl rfl rfl rfl rfl rfl ⟨rfl, rfl, rfl, rfl, rfl⟩ rfl rfl rfl rfl rfl (by kernel_rfl) Try.func14
    (and_tt (and_tt (and_tt (and_tt (and_tt (and_tt (and_tt (and_tt (and_tt (and_tt (and_tt (and_tt (and_tt (and_tt (and_tt (and_tt (and_tt (and_tt (and_tt (and_tt (and_tt (and_tt (and_tt (and_tt (and_tt (and_tt (and_tt (and_tt (and_tt (and_tt (and_tt jf0 fa_laid) fa_maps) jf3) jf4) jf5) fa_stops) jf7) fa_knobs) jf9) jf10) jf11) jf12) jf13) jf14) jf15) jf16) jf17) jf18) jf19) jf20) jf21) jf22) jf23) fa_heard) fa_enter) jf26) jf27) jf28) jf29) jf30) jf31)
    (of_decide_eq_true (by kernel_rfl)) (by unfold Func.isWrapper; first | (rw [if_pos (by decide +kernel)]; kernel_rfl) | (rw [if_neg (by decide +kernel)]; exact ⟨rfl, rfl⟩))
    (fun os started H enc _ F => lifted os started H enc F)

theorem proved : Rows.TagTellsUptoSaid := over
end Go.Proofs.Ytehbahobkgoapaa.tagTells
