/- TopNext says true for every input: any script of acts (the first 20), any paths asked for (the first 8), any values, any turns (the first 20); each argument reads behind the call as it read before. Conditions: none but those of the given form (Said). -/
import Derived.Test.YtkjjdgnkelchfaaGreatPNU26
set_option linter.unusedSimpArgs false
set_option linter.unusedVariables false
set_option maxRecDepth 100000
set_option maxHeartbeats 16000000
namespace Go.Proofs.YtkjjdgnkelchfaaGreat.topNext
open Go.ChangeShapes Go.WideShapes Go.ChangeAt Go.RowKit
open Go.ChangeMaps (open_string shut_string)
theorem xby{a b:Bool}(h:a=true)(k:b=true):(a&&b)=true:=by rw[h,k];rfl
theorem own:ownKnob Tryz.prog.godebug=none:=by kernel_rfl
theorem laidOut:laidOutB Tryz.prog=true:=by kernel_rfl
theorem contract(H:Type)(enc:TypeId×Value→H)(W:World)(base:Nat)(args:Array Value)(ds gs:List (DataW H))(before:List MemPlace)
  (hval0:∀ (j:Nat) t v,Tryz.f5.params[j]? = some t→args[j]? = some v→Value.okWide Tryz.prog W .any base t v)
  (hW:DataW.Whole enc Tryz.prog Tryz.f5.params.toList Rows.topNextSpec.vars false W args.toList ds gs before) 
  (hsz0:(DataW.weightsEach Tryz.prog (Tryz.f5.params.toList++Rows.topNextSpec.plain.varTypes Tryz.prog) (ds++gs)).all (· ≤ reachBytes)=true) :
  Calls Tryz.prog 5 args W fun e W'=>∃ v,e=.returned v∧Rows.topNextSpec.post enc Tryz.prog Tryz.f5 false true false false W args v W':=by
 have hval:∀ (j:Nat) t v,Tryz.f5.params[j]? = some t→args[j]? = some v→Value.okWide Tryz.prog W .any base t v:=hval0;have hsz:(DataW.weightsEach Tryz.prog (Tryz.f5.params.toList++Rows.topNextSpec.plain.varTypes Tryz.prog) (ds++gs)).all (· ≤ reachBytes)=true:=hsz0;have hW':=hW;obtain⟨p,q,hA0,hV,rfl,hfz,hnd⟩:=hW;have hA:DataW.TrodAll enc Tryz.prog W 0 (fun _=>true) true Tryz.f5.params.toList args.toList ds p:=hA0;rw[Tryz.params5] at hA hval hsz;obtain⟨v0,vs0,d0,ds0,p0,q0,hargs,rfl,rfl,h0,r0⟩:=trodAll_cons hA;obtain⟨v1,vs1,d1,ds1,p1,q1,rfl,rfl,rfl,h1,r1⟩:=trodAll_cons r0;obtain⟨v2,vs2,d2,ds2,p2,q2,rfl,rfl,rfl,h2,r2⟩:=trodAll_cons r1;obtain⟨v3,vs3,d3,ds3,p3,q3,rfl,rfl,rfl,h3,r3⟩:=trodAll_cons r2;obtain⟨rfl,rfl,rfl⟩:=trodAll_nil r3
 obtain rfl:args=#[v0,v1,v2,v3]:=by cases args;simp_all
 obtain⟨rfl,rfl⟩:=trodVars_none hV;have k0_:=h0;have lt0:∀ x∈p0,x.block<W.heap.size:=by obtain⟨m,hm⟩:=k0_;exact DataW.trod_lt m _ _ _ hm
 obtain⟨A0,n0,c0,xs0,rfl,hw0,bd0⟩:=xve Tryz.underlying84 (by kernel_rfl) (by kernel_rfl) Tryz.underlying159 rfl rfl rfl rfl rfl rfl Tryz.underlying5 Tryz.underlying9 rfl rfl rfl Tryz.underlying3 (by kernel_rfl) (by kernel_rfl) (by kernel_rfl) (by kernel_rfl) (by kernel_rfl) Tryz.underlying73 (by kernel_rfl) bt (by kernel_rfl) (by kernel_rfl) Tryz.underlying80 rfl rfl rfl rfl rfl Tryz.underlying4 (by kernel_rfl) (by kernel_rfl) (hval 0 84 v0 rfl rfl) h0 (fun n hn=>by have:=List.all_eq_true.1 hsz _ (DataW.weights_mem_each (j:=0) (t:=84) rfl rfl n hn);simpa using this);have k1_:=h1;have lt1:∀ x∈p1,x.block<W.heap.size:=by obtain⟨m,hm⟩:=k1_;exact DataW.trod_lt m _ _ _ hm
 obtain⟨A1,n1,c1,ks1,rfl,hk1⟩:=xu2 Tryz.underlying26 Tryz.underlying24 Tryz.underlying5 (by kernel_rfl) (by kernel_rfl) (hval 1 26 v1 rfl rfl) h1;have bd1:=keys_bd Tryz.underlying26 (by kernel_rfl) k1_ (fun n hn=>by have:=List.all_eq_true.1 hsz _ (DataW.weights_mem_each (j:=1) (t:=26) rfl rfl n hn);simpa using this);have k2_:=h2;have lt2:∀ x∈p2,x.block<W.heap.size:=by obtain⟨m,hm⟩:=k2_;exact DataW.trod_lt m _ _ _ hm
 obtain⟨A2,n2,c2,ls2,rfl,hv2⟩:=xvf Tryz.underlying50 (by kernel_rfl) bt (by kernel_rfl) (by kernel_rfl) (hval 2 50 v2 rfl rfl) h2 (fun n hn=>by have:=List.all_eq_true.1 hsz _ (DataW.weights_mem_each (j:=2) (t:=50) rfl rfl n hn);simpa using this);have k3_:=h3;have lt3:∀ x∈p3,x.block<W.heap.size:=by obtain⟨m,hm⟩:=k3_;exact DataW.trod_lt m _ _ _ hm
 obtain⟨A3,n3,c3,zs3,rfl,rd3,len3,rng3⟩:=open_zs Tryz.underlying71 Tryz.underlying3 (by kernel_rfl) (hval 3 71 v3 rfl rfl) h3;clear hA0 hval0;refine(xry A0 n0 c0 xs0 hw0 bd0 A1 n1 c1 ks1 hk1 bd1 A2 n2 c2 ls2 hv2 A3 n3 c3 zs3 rd3 len3 rng3).mono fun e W' ⟨he,bel⟩=>?_
 subst he;exact⟨_,rfl,_,_,_,[],_,[],hW',trodAll_mk1 (shut_bool Tryz.underlying4 _),(trodAll_cons_mk (Below.trod laidOut (by kernel_rfl) (of_decide_eq_true (by kernel_rfl)) k0_ bel lt0) (trodAll_cons_mk (Below.trod laidOut (by kernel_rfl) (of_decide_eq_true (by kernel_rfl)) k1_ bel lt1) (trodAll_cons_mk (Below.trod laidOut (by kernel_rfl) (of_decide_eq_true (by kernel_rfl)) k2_ bel lt2) (trodAll_cons_mk (Below.trod laidOut (by kernel_rfl) (of_decide_eq_true (by kernel_rfl)) k3_ bel lt3) trodAll_mk0)))),rfl,bel.frame _,fun h=>by cases h⟩
theorem lifted(os:Os)(started:os.Started)(H:Type)(enc:TypeId×Value→H) :
  ReturnsInHanded {} Tryz.checked os 5 .any (Rows.topNextSpec.pre6 enc Tryz.prog Tryz.f5 Rows.topNextRow.domain false) (Rows.topNextSpec.post enc Tryz.prog Tryz.f5 false true false false):=by
 refine returnsInHanded_of_change_sized (C:=Tryz.checked) own started (by kernel_rfl) Tryz.func5
  (ChangeSpec.witness6 (enc:=enc) (C:=Tryz.checked) false ⟨#[],#[.slice none 0 0,.slice none 0 0,.slice none 0 0,.slice none 0 0],[]⟩ 8 (by kernel_rfl) (by kernel_rfl) (by kernel_rfl) (by kernel_rfl)) ?_
 intro W base args ds gs before hval0 hW hcnd hsz0 _;exact contract H enc W base args ds gs before hval0 hW hsz0
theorem jf0:(Rows.topNextRow.wf (OpenSpec.ofChange Rows.topNextSpec):Bool)=true:=by kernel_rfl
theorem jf3:(Tryz.f5.params.all (Tryz.prog.readableRec ·):Bool)=true:=by kernel_rfl
theorem jf4:(namedTie Tryz.prog Rows.topNextRow.named Rows.topNextSpec.vars:Bool)=true:=by kernel_rfl
theorem jf5:((Rows.topNextRow.stops==[]):Bool)=true:=by kernel_rfl
theorem jf7:((Rows.topNextRow.knobs==[]):Bool)=true:=by kernel_rfl
theorem jf9:((Rows.topNextRow.inPlace==Tryz.prog.inPlace 5):Bool)=true:=by kernel_rfl
theorem jf10:((Rows.topNextRow.unfollowed==Tryz.prog.unfollowed 5):Bool)=true:=by kernel_rfl
theorem jf11:((Rows.topNextRow.recurses==Tryz.prog.recurses 5):Bool)=true:=by kernel_rfl
theorem jf12:((Rows.topNextRow.named==Tryz.prog.varsNamed 5):Bool)=true:=by kernel_rfl
theorem jf13:((Rows.topNextRow.maps==(Tryz.f5.params.toList++Rows.topNextSpec.plain.varTypes Tryz.prog).any (Tryz.prog.mapsRec ·)):Bool)=true:=by kernel_rfl
theorem jf14:((Rows.topNextRow.ifaces==(Tryz.f5.params.toList++Rows.topNextSpec.plain.varTypes Tryz.prog).any (Tryz.prog.ifacesRec ·)):Bool)=true:=by kernel_rfl
theorem jf15:((Rows.topNextRow.mapsOut==Tryz.prog.mapsAmong Tryz.f5.resultTypes.toList):Bool)=true:=by kernel_rfl
theorem jf16:((Rows.topNextRow.loops==(Tryz.f5.params.toList++Rows.topNextSpec.plain.varTypes Tryz.prog).any (Tryz.prog.loopsFrom ·)):Bool)=true:=by kernel_rfl
theorem jf17:((Rows.topNextRow.wideKeys==(Tryz.f5.params.toList++Rows.topNextSpec.plain.varTypes Tryz.prog++Tryz.f5.resultTypes.toList).any (Tryz.prog.wideKeysFrom ·)):Bool)=true:=by kernel_rfl
theorem jf18:(Rows.topNextSpec.vars.all (Tryz.prog.varReadable ·):Bool)=true:=by kernel_rfl
theorem jf19:(Tryz.f5.resultTypes.all (fun t=>Tryz.prog.readableRec t&&decide (t<Tryz.prog.types.size)):Bool)=true:=by kernel_rfl
theorem jf20:((Rows.topNextRow.ifacesOut==Tryz.f5.resultTypes.toList.any (Tryz.prog.ifacesRec ·)):Bool)=true:=by kernel_rfl
theorem jf21:((Rows.topNextRow.loopsOut==Tryz.f5.resultTypes.toList.any (Tryz.prog.loopsFrom ·)):Bool)=true:=by kernel_rfl
theorem jf22:(Rows.topNextRow.plainKeys==Tryz.prog.plainKeys)=true:=by rw[fa_keys];rfl
theorem jf23:(Rows.topNextRow.shortTexts.isNone:Bool)=true:=by kernel_rfl
theorem jf26:(Rows.topNextRow.lifted==Tryz.prog.liftsFinal)=true:=by rw[fa_lifts];rfl
theorem jf27:(Tryz.prog.make==some Rows.topNextRow.make)=true:=by rw[fa_make];rfl
theorem jf28:((Rows.topNextRow.kinds==(if Rows.topNextRow.domain.isEmpty then [] else Tryz.f5.params.toList.map fun t=>match Tryz.prog.underlying t with | some (.int k)=>some k | _=>none)):Bool)=true:=by kernel_rfl
theorem jf29:((Rows.topNextRow.pinned==Rows.topNextRow.pinnedBy):Bool)=true:=by kernel_rfl
theorem jf30:((Rows.topNextRow.veiled==(Tryz.f5.params.toList++Rows.topNextSpec.plain.varTypes Tryz.prog++Tryz.f5.resultTypes.toList).any (Tryz.prog.veiledRec ·)):Bool)=true:=by kernel_rfl
theorem jf31:(Rows.topNextRow.veiledFits Tryz.prog Tryz.f5.params.toList (Tryz.f5.params.toList++Rows.topNextSpec.plain.varTypes Tryz.prog++Tryz.f5.resultTypes.toList):Bool)=true:=by kernel_rfl
theorem over:Rows.topNextRow.holds Tryz.pinned (OpenSpec.ofChange Rows.topNextSpec) :=
 OpenClaim.holds_of_wide 5 Tryz.f5 rfl rfl rfl rfl rfl rfl rfl ⟨rfl,rfl,rfl,rfl,rfl⟩ rfl rfl rfl rfl rfl (by kernel_rfl) Tryz.func5
  (xby (xby (xby (xby (xby (xby (xby (xby (xby (xby (xby (xby (xby (xby (xby (xby (xby (xby (xby (xby (xby (xby (xby (xby (xby (xby (xby (xby (xby (xby (xby jf0 fa_laid) fa_maps) jf3) jf4) jf5) fa_stops) jf7) fa_knobs) jf9) jf10) jf11) jf12) jf13) jf14) jf15) jf16) jf17) jf18) jf19) jf20) jf21) jf22) jf23) fa_heard) fa_enter) jf26) jf27) jf28) jf29) jf30) jf31)
  (of_decide_eq_true (by kernel_rfl)) (by unfold Func.isWrapper;first | (rw[if_pos (by decide +kernel)];kernel_rfl) | (rw[if_neg (by decide +kernel)];exact⟨rfl,rfl⟩))
  (fun os started H enc _=>lifted os started H enc)
theorem proved:Rows.TopNextSaid:=over
end Go.Proofs.YtkjjdgnkelchfaaGreat.topNext
