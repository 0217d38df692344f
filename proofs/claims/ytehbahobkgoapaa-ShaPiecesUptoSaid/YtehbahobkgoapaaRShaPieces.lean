/- The statement of ShaPieces, out of its walk: true for every input of bulk at most 1048576; each argument reads behind the call as it read before. -/
import Derived.Test.YtehbahobkgoapaaFa
import Derived.Test.YtehbahobkgoapaaOr
import Derived.Test.YtehbahobkgoapaaWo
import Derived.Deep.CondSized
import Derived.JoinedCond
namespace Go.Proofs.Ytehbahobkgoapaa.shaPieces
open Go.ChangeShapes Go.WideShapes Go.ChangeAt Go.RowKit
open Go.ChangeMaps (open_string shut_string)
set_option linter.unusedVariables false
set_option linter.unusedSimpArgs false

theorem and_tt {a b : Bool} (h : a = true) (k : b = true) : (a && b) = true := by rw [h, k]; rfl
theorem own : ownKnob Try.prog.godebug = none := by kernel_rfl
theorem laidOut : laidOutB Try.prog = true := by kernel_rfl

set_option maxRecDepth 100000 in
theorem contract (H : Type) (enc : TypeId × Value → H) (W : World) (base : Nat) (args : Array Value) (ds gs : List (DataW H)) (before : List MemPlace)
    (hval0 : ∀ (j : Nat) t v, Try.f16.params[j]? = some t → args[j]? = some v → Value.okWide Try.prog W .any base t v)
    (hW : DataW.Whole enc Try.prog Try.f16.params.toList Rows.shaPiecesSpec.vars false W args.toList ds gs before) (hk : Rows.uptoSmall H (ds ++ gs) = true) 
    (hsz0 : (DataW.weightsEach Try.prog (Try.f16.params.toList ++ Rows.shaPiecesSpec.plain.varTypes Try.prog) (ds ++ gs)).all (· ≤ reachBytes) = true) :
    Calls Try.prog 16 args W fun e W' => ∃ v, e = .returned v ∧ Rows.shaPiecesSpec.post enc Try.prog Try.f16 false true false false W args v W' := by
  have hval : ∀ (j : Nat) t v, Try.f16.params[j]? = some t → args[j]? = some v → Value.okWide Try.prog W .any base t v := hval0
  have hsz : (DataW.weightsEach Try.prog (Try.f16.params.toList ++ Rows.shaPiecesSpec.plain.varTypes Try.prog) (ds ++ gs)).all (· ≤ reachBytes) = true := hsz0
  have hW' := hW
  obtain ⟨p, q, hA0, hV, rfl, hfz, hnd⟩ := hW
  have hA : DataW.TrodAll enc Try.prog W 0 (fun _ => true) true Try.f16.params.toList args.toList ds p := hA0
  rw [Try.params16] at hA hval hsz
  obtain ⟨v0, vs0, d0, ds0, p0, q0, hargs, rfl, rfl, h0, r0⟩ := trodAll_cons hA
  obtain ⟨v1, vs1, d1, ds1, p1, q1, rfl, rfl, rfl, h1, r1⟩ := trodAll_cons r0
  obtain ⟨v2, vs2, d2, ds2, p2, q2, rfl, rfl, rfl, h2, r2⟩ := trodAll_cons r1
  obtain ⟨rfl, rfl, rfl⟩ := trodAll_nil r2
  obtain rfl : args = #[v0, v1, v2] := by cases args; simp_all
  obtain ⟨rfl, rfl⟩ := trodVars_none hV
  have k0_ := h0
  have lt0 : ∀ x ∈ p0, x.block < W.heap.size := by obtain ⟨m, hm⟩ := k0_; exact DataW.trod_lt m _ _ _ hm
  obtain ⟨A0, n0, c0, l0, rfl, len0, cap0, rd0, dd0⟩ := open_bytes bt (by kernel_rfl) (hval 0 24 v0 rfl rfl) h0
  have bd0 : c0 ≤ 140737488351232 := by
    rcases dd0 with ⟨_, h⟩ | ⟨es, sp, hd, h⟩
    · omega
    · have := sized_slice hsz (j := 0) (t := 24) (e := 5) (elems := es) (spare := sp) rfl (by rw [hd]; rfl) Try.underlying24
      rw [show Try.prog.bytesOf 5 = 1 by kernel_rfl] at this; simp only [reachBytes] at this; omega
  have k1_ := h1
  have lt1 : ∀ x ∈ p1, x.block < W.heap.size := by obtain ⟨m, hm⟩ := k1_; exact DataW.trod_lt m _ _ _ hm
  obtain ⟨A1, n1, c1, zs1, rfl, len1, bd1, rd1, rng1⟩ := open_intsV Try.underlying92 Try.underlying3 (by kernel_rfl) (hval 1 92 v1 rfl rfl) h1
  have k2_ := h2
  have lt2 : ∀ x ∈ p2, x.block < W.heap.size := by obtain ⟨m, hm⟩ := k2_; exact DataW.trod_lt m _ _ _ hm
  obtain ⟨A2, n2, c2, l2, rfl, len2, cap2, rd2, dd2⟩ := open_bytes bt (by kernel_rfl) (hval 2 24 v2 rfl rfl) h2
  have bd2 : c2 ≤ 140737488351232 := by
    rcases dd2 with ⟨_, h⟩ | ⟨es, sp, hd, h⟩
    · omega
    · have := sized_slice hsz (j := 2) (t := 24) (e := 5) (elems := es) (spare := sp) rfl (by rw [hd]; rfl) Try.underlying24
      rw [show Try.prog.bytesOf 5 = 1 by kernel_rfl] at this; simp only [reachBytes] at this; omega
  have bu0 : c0 ≤ 1048576 := by
    rcases dd0 with ⟨_, h⟩ | ⟨es, sp, hd, h⟩
    · omega
    · have h1 := bulks.slice_le es sp
      have h2 := bulks.one_bound hk (d := d0) (by simp)
      rw [hd] at h2; omega
  have bu2 : c2 ≤ 1048576 := by
    rcases dd2 with ⟨_, h⟩ | ⟨es, sp, hd, h⟩
    · omega
    · have h1 := bulks.slice_le es sp
      have h2 := bulks.one_bound hk (d := d2) (by simp)
      rw [hd] at h2; omega
  clear hA0 hval0
  refine (sha_pieces A0 n0 c0 l0 A1 n1 c1 zs1 A2 n2 c2 l2 W rd0 len0 cap0 bu0 rd1 len1 bd1 rng1 rd2 len2 cap2 bu2).mono fun e W' ⟨he, bel⟩ => ?_
  subst he
  exact ⟨_, rfl, _, _, _, [], _, [], hW', trodAll_mk1 (shut_bool Try.underlying4 _), (trodAll_cons_mk (Below.trod laidOut (by kernel_rfl) (of_decide_eq_true (by kernel_rfl)) k0_ bel lt0) (trodAll_cons_mk (Below.trod laidOut (by kernel_rfl) (of_decide_eq_true (by kernel_rfl)) k1_ bel lt1) (trodAll_cons_mk (Below.trod laidOut (by kernel_rfl) (of_decide_eq_true (by kernel_rfl)) k2_ bel lt2) trodAll_mk0))), rfl, bel.frame _, fun h => by cases h⟩

set_option maxRecDepth 100000 in
theorem lifted (os : Os) (started : os.Started) (H : Type) (enc : TypeId × Value → H) (F : Stop.Interp) :
    ReturnsInHanded {} Try.checked os 16 .any ((Rows.OpenSpec.upto Rows.shaPiecesSpec).pre6 enc Try.prog Try.f16 Rows.shaPiecesUptoRow.domain false) (((Rows.OpenSpec.upto Rows.shaPiecesSpec).at F).post enc Try.prog Try.f16 false true false false) := by
  refine returnsInHanded_of_cond_sized (C := Try.checked) (s := Rows.OpenSpec.upto Rows.shaPiecesSpec) (k := Rows.uptoSmall) rfl own started (by kernel_rfl) Try.func16
    (OpenSpec.witness (enc := enc) (C := Try.checked) (s := Rows.OpenSpec.upto Rows.shaPiecesSpec) (k := Rows.uptoSmall) rfl false ⟨#[], #[.slice none 0 0, .slice none 0 0, .slice none 0 0], []⟩ 8 (by kernel_rfl) (by kernel_rfl) (by kernel_rfl)
      (x := ([.nil, .nil, .nil], [], [])) (by kernel_rfl) rfl (by kernel_rfl)) ?_
  intro W base args ds gs before hval0 hW _ hk hsz0 _
  exact contract H enc W base args ds gs before hval0 hW hk hsz0

theorem jf0 : (Rows.shaPiecesUptoRow.wf (OpenSpec.ofChange (Rows.OpenSpec.upto Rows.shaPiecesSpec).bare) : Bool) = true := by kernel_rfl
theorem jf3 : (Try.f16.params.all (Try.prog.readableRec ·) : Bool) = true := by kernel_rfl
theorem jf4 : (namedTie Try.prog Rows.shaPiecesUptoRow.named (Rows.OpenSpec.upto Rows.shaPiecesSpec).bare.vars : Bool) = true := by kernel_rfl
theorem jf5 : ((Rows.shaPiecesUptoRow.stops == []) : Bool) = true := by kernel_rfl
theorem jf7 : ((Rows.shaPiecesUptoRow.knobs == []) : Bool) = true := by kernel_rfl
theorem jf9 : ((Rows.shaPiecesUptoRow.inPlace == Try.prog.inPlace 16) : Bool) = true := by kernel_rfl
theorem jf10 : ((Rows.shaPiecesUptoRow.unfollowed == Try.prog.unfollowed 16) : Bool) = true := by kernel_rfl
theorem jf11 : ((Rows.shaPiecesUptoRow.recurses == Try.prog.recurses 16) : Bool) = true := by kernel_rfl
theorem jf12 : ((Rows.shaPiecesUptoRow.named == Try.prog.varsNamed 16) : Bool) = true := by kernel_rfl
theorem jf13 : ((Rows.shaPiecesUptoRow.maps == (Try.f16.params.toList ++ (Rows.OpenSpec.upto Rows.shaPiecesSpec).bare.plain.varTypes Try.prog).any (Try.prog.mapsRec ·)) : Bool) = true := by kernel_rfl
theorem jf14 : ((Rows.shaPiecesUptoRow.ifaces == (Try.f16.params.toList ++ (Rows.OpenSpec.upto Rows.shaPiecesSpec).bare.plain.varTypes Try.prog).any (Try.prog.ifacesRec ·)) : Bool) = true := by kernel_rfl
theorem jf15 : ((Rows.shaPiecesUptoRow.mapsOut == Try.prog.mapsAmong Try.f16.resultTypes.toList) : Bool) = true := by kernel_rfl
theorem jf16 : ((Rows.shaPiecesUptoRow.loops == (Try.f16.params.toList ++ (Rows.OpenSpec.upto Rows.shaPiecesSpec).bare.plain.varTypes Try.prog).any (Try.prog.loopsFrom ·)) : Bool) = true := by kernel_rfl
theorem jf17 : ((Rows.shaPiecesUptoRow.wideKeys == (Try.f16.params.toList ++ (Rows.OpenSpec.upto Rows.shaPiecesSpec).bare.plain.varTypes Try.prog ++ Try.f16.resultTypes.toList).any (Try.prog.wideKeysFrom ·)) : Bool) = true := by kernel_rfl
theorem jf18 : ((Rows.OpenSpec.upto Rows.shaPiecesSpec).bare.vars.all (Try.prog.varReadable ·) : Bool) = true := by kernel_rfl
theorem jf19 : (Try.f16.resultTypes.all (fun t => Try.prog.readableRec t && decide (t < Try.prog.types.size)) : Bool) = true := by kernel_rfl
theorem jf20 : ((Rows.shaPiecesUptoRow.ifacesOut == Try.f16.resultTypes.toList.any (Try.prog.ifacesRec ·)) : Bool) = true := by kernel_rfl
theorem jf21 : ((Rows.shaPiecesUptoRow.loopsOut == Try.f16.resultTypes.toList.any (Try.prog.loopsFrom ·)) : Bool) = true := by kernel_rfl
theorem jf22 : (Rows.shaPiecesUptoRow.plainKeys == Try.prog.plainKeys) = true := by rw [fa_keys]; rfl
theorem jf23 : (Rows.shaPiecesUptoRow.shortTexts.isNone : Bool) = true := by kernel_rfl
theorem jf26 : (Rows.shaPiecesUptoRow.lifted == Try.prog.liftsFinal) = true := by rw [fa_lifts]; rfl
theorem jf27 : (Try.prog.make == some Rows.shaPiecesUptoRow.make) = true := by rw [fa_make]; rfl
theorem jf28 : ((Rows.shaPiecesUptoRow.kinds == (if Rows.shaPiecesUptoRow.domain.isEmpty then [] else Try.f16.params.toList.map fun t => match Try.prog.underlying t with | some (.int k) => some k | _ => none)) : Bool) = true := by kernel_rfl
theorem jf29 : ((Rows.shaPiecesUptoRow.pinned == Rows.shaPiecesUptoRow.pinnedBy) : Bool) = true := by kernel_rfl
theorem jf30 : ((Rows.shaPiecesUptoRow.veiled == (Try.f16.params.toList ++ (Rows.OpenSpec.upto Rows.shaPiecesSpec).bare.plain.varTypes Try.prog ++ Try.f16.resultTypes.toList).any (Try.prog.veiledRec ·)) : Bool) = true := by kernel_rfl
theorem jf31 : (Rows.shaPiecesUptoRow.veiledFits Try.prog Try.f16.params.toList (Try.f16.params.toList ++ (Rows.OpenSpec.upto Rows.shaPiecesSpec).bare.plain.varTypes Try.prog ++ Try.f16.resultTypes.toList) : Bool) = true := by kernel_rfl
set_option maxRecDepth 100000 in
theorem over : Rows.shaPiecesUptoRow.holds Try.pinned (Rows.OpenSpec.upto Rows.shaPiecesSpec) :=
  OpenClaim.holds_of_cond 16 Try.f16 rfl rfl rfl rfl rfl rfl rfl ⟨rfl, rfl, rfl, rfl, rfl⟩ rfl rfl rfl rfl rfl (by kernel_rfl) Try.func16
    (and_tt (and_tt (and_tt (and_tt (and_tt (and_tt (and_tt (and_tt (and_tt (and_tt (and_tt (and_tt (and_tt (and_tt (and_tt (and_tt (and_tt (and_tt (and_tt (and_tt (and_tt (and_tt (and_tt (and_tt (and_tt (and_tt (and_tt (and_tt (and_tt (and_tt (and_tt jf0 fa_laid) fa_maps) jf3) jf4) jf5) fa_stops) jf7) fa_knobs) jf9) jf10) jf11) jf12) jf13) jf14) jf15) jf16) jf17) jf18) jf19) jf20) jf21) jf22) jf23) fa_heard) fa_enter) jf26) jf27) jf28) jf29) jf30) jf31)
    (of_decide_eq_true (by kernel_rfl)) (by unfold Func.isWrapper; first | (rw [if_pos (by decide +kernel)]; kernel_rfl) | (rw [if_neg (by decide +kernel)]; exact ⟨rfl, rfl⟩))
    (fun os started H enc _ F => lifted os started H enc F)

theorem proved : Rows.ShaPiecesUptoSaid := over
end Go.Proofs.Ytehbahobkgoapaa.shaPieces
