import Derived.Test.YtkjjdgnkelchfaaGreatPNU17
import Derived.Test.YtkjjdgnkelchfaaGreatPNU19
set_option linter.unusedSimpArgs false
set_option linter.unusedVariables false
set_option maxRecDepth 100000
set_option maxHeartbeats 16000000
namespace Go.Proofs.YtkjjdgnkelchfaaGreat
open Go Go.RowKit Go.Proofs.Tryz
def RolO(D:Nat→Prop)(w:World)(gd gs g gv gm:Nat)(σ:Sb)(vl:List (LU×Int))(R:List Int)(t:Tre)(z:Int)(e:Ending)(w':World):Prop :=
 ∃ (r:Value)(D':Nat→Prop)(vs' vf':Sv)(σ':Sb),e=.returned r∧DcV D' w' gd gs g gv gm σ' vs' vf' vl z∧Stp (dA D gd gv gm) w (dA D' gd gv gm) w'∧σ'.Inv (rt1 z R) []∧σ.Keeps R σ'∧IsT σ' z 0 t∧σ'.room=σ.room∧σ'.used≤σ.used
section
variable {D:Nat→Prop}{w w':World}{gd gs g gv gm:Nat}{σ:Sb}{vs vf:Sv}{vl:List (LU×Int)}{root:Int}
theorem xrl(h:DcV D w gd gs g gv gm σ vs vf vl root)(s:LU)(hs:s.length≤maxLen)(hno:s∉vl.map Prod.fst) :
  Calls prog 128 #[pG gv,.string ⟨s.toArray⟩] w fun e w'=>e=.returned (.tuple #[iV 0,iV 7])∧w=w':=by
 have HH:=hZ h;have hgv:Old w gv:=h.vb.lt;have hv1:=h.v1
 obtain⟨kl,hkl⟩:=key9 ⟨s.toArray⟩ (by
  show s.toArray.size≤maxLen;have e:s.toArray.size=s.length:=by simp
  rw[e];exact hs)
 have HKL:=hZ hkl;have HKO:=hZ (xn1 h.short)
 have HLK:Hid (((∀ p∈vsL vl,p.1≠.string ⟨s.toArray⟩)→Value.int .i64 0=.int .i64 0∧false=false)∧(∀ (j':Nat)(u:Value),(vsL vl)[j']? = some (.string ⟨s.toArray⟩,u)→Value.int .i64 0=u∧false=true)):=hZ ⟨fun _=>⟨rfl,rfl⟩,fun j u h=>by
  obtain⟨z,h1,_⟩:=xk2 h
  exact absurd (List.mem_map.2 ⟨_,List.mem_of_getElem? h1,rfl⟩) hno⟩
 clear h hkl;obtain⟨w0,rfl,HL⟩:=lS w;go_enter func128,ntmps128;go_upto_region 0 with fail;refine X2y ?_;go_upto_region 1 with fail;refine X1v ?_;intro K hK;refine Xfn ?_;refine Xfo ?_;rintro e w ⟨rfl,rfl⟩;refine X20 ?_;clear hK K;go_upto_region 3 with fail;refine Xfq ?_;refine X15 ?_;refine xaa rfl _ (xfj (HH.out.mp.below HL.below) law9 underlying257 (xpo _) HKO.out HKL.out (.tmp 14) (.tmp 15) rfl rfl rfl (iV 0) false HLK.out) ?_;refine Xca ?_;go_upto_region 4 with fail;refine X2n ?_;go_upto_region 5 with fail;refine X2y ?_;go_wp2_with fail;go_ret2;exact⟨rfl,rfl⟩
theorem xu8(h:DcV D w gd gs g gv gm σ vs vf vl root)(s:LU)(hs:s.length≤maxLen)(hno:s∉vl.map Prod.fst) :
  Calls prog 126 #[pG gv,.string ⟨s.toArray⟩] w (oB w (.tuple #[iV 0,iV 7])):=by
 refine Xht ?_;intro CR;clear h hs hno;obtain⟨w0,rfl,HL⟩:=lS w;go_enter func126,ntmps126;go_upto_region 0 with fail;refine X2y ?_;go_upto_region 1 with fail;refine X2j ?_;intro K hK;refine Xfu ?_;refine Xfv ?_;rintro e w ⟨rfl,rfl⟩;refine X7l ?_;clear hK K;go_upto_region 2 with fail;refine Xex ?_;go_upto_region 3 with fail;refine X3s ?_;go_wp2_with fail;go_ret2;exact⟨rfl,HL.below⟩
theorem xoc(h:DcV D w gd gs g gv gm σ vs vf vl root)(s:LU)(hs:s.length≤maxLen)(hno:s∉vl.map Prod.fst) :
  Calls prog 73 #[pG gd,.string ⟨s.toArray⟩] w fun e w'=>(∃ r:Value,e=.returned r)∧Bw w w':=by
 have HH:=hZ h;have hgd:Old w gd:=h.blk.lt;have hc0:=h.c0;have CR:∀ u,Bw w u→Hid (Calls prog 126 #[pG gv,.string ⟨s.toArray⟩] u (oB u (.tuple #[iV 0,iV 7]))):=fun u hu=>hZ (xu8 (h.below hu) s hs hno)
 clear h hno hs;obtain⟨w0,rfl,HL⟩:=lS w;go_enter func73,ntmps73;go_upto_region 0 with fail;refine X1j ?_;go_upto_region 1 with fail;refine X1v ?_;intro K hK;refine Xhu ?_;refine Xhv ?_;rintro e w ⟨rfl,rfl⟩;refine X2m ?_;clear hK K;go_upto_region 2 with fail;refine Xew ?_;go_upto_region 4 with fail;refine X14 ?_;refine Xgo ?_;refine X6 ?_;refine Xgp ?_;refine X6 ?_;refine Xhw ?_;refine X42 ?_;intro K hK;refine xad cf126 rfl _ rfl ?_;refine X1w ?_;refine Xfv ?_;refine X4a ?_;clear hK K;intro w HL;refine X1f ?_;go_upto_region 5 with fail;refine X7v ?_;go_wp2_with fail;go_ret;exact⟨⟨_,rfl⟩,HL.below⟩
theorem xu9(h:DcV D w gd gs g gv gm σ vs vf vl root)(R R':List Int)(hI:σ.Inv R [])(hnd:(vl.map Prod.fst).Nodup)(s:LU)(hs:s.length≤20)(z:Int)(t:Tre)(ht:IsT σ z 0 t)(j:Nat)(hj:vl[j]? = some (s,z))(hR:xmk R R' z)(h1:R.length≤1073741824)(h2:R'.length≤1073741824) :
  Calls prog 73 #[pG gd,.string ⟨s.toArray⟩] w (PruO D w gd gs g gv gm σ (vl.eraseIdx j) root R' mkB):=by
 have HH:=hZ h;have hgd:Old w gd:=h.blk.lt;have hc0:=h.c0;have CR:∀ u,Bw w u→Hid (Calls prog 126 #[pG gv,.string ⟨s.toArray⟩] u (PruO D u gd gs g gv gm σ (vl.eraseIdx j) root R' mkA)):=fun u hu=>hZ (vs_pru (h.below hu) R R' hI hnd s hs z t ht j hj hR h1 h2)
 clear h hI ht hnd hj hR;obtain⟨w0,rfl,HL⟩:=lS w;go_enter func73,ntmps73;go_upto_region 0 with fail;refine X1j ?_;go_upto_region 1 with fail;refine X1v ?_;intro K hK;refine Xhu ?_;refine Xhv ?_;rintro e w ⟨rfl,rfl⟩;refine X2m ?_;clear hK K;go_upto_region 2 with fail;refine Xew ?_;go_upto_region 4 with fail;refine X14 ?_;refine Xgo ?_;refine X6 ?_;refine Xgp ?_;refine X6 ?_;refine Xhw ?_;refine X42 ?_;intro K hK;refine xad cf126 rfl _ rfl ?_;refine X1w ?_;refine Xfv ?_;rintro e w ⟨m,D',vs',vf',σ',rfl,hO⟩;have HO:=hZ hO;have HB:=hZ HL.below;clear hO;refine X7l ?_;clear hK K;clear HL;go_upto_region 5 with fail;refine X7v ?_;go_wp2_with fail;go_ret;exact⟨m,D',vs',vf',σ',rfl,HO.out.1,(Stp.of_below HB.out).trans HO.out.2.1,HO.out.2.2⟩
theorem xp4(h:DcV D w gd gs g gv gm σ vs vf vl root)(s:LU)(hs:s.length≤maxLen)(hno:s∉vl.map Prod.fst) :
  Calls prog 80 #[pG gd,.string ⟨s.toArray⟩] w fun e w'=>(∃ r:Value,e=.returned r)∧Bw w w':=by
 have HH:=hZ h;have hgd:Old w gd:=h.blk.lt;have hc0:=h.c0;refine Xht ?_;intro CR;clear h hno hs;obtain⟨w0,rfl,HL⟩:=lS w;go_enter func80,ntmps80;go_upto_region 0 with fail;refine X1j ?_;go_upto_region 1 with fail;refine X1v ?_;intro K hK;refine Xhu ?_;refine Xhv ?_;rintro e w ⟨rfl,rfl⟩;refine X2m ?_;clear hK K;go_upto_region 2 with fail;refine Xew ?_;go_upto_region 4 with fail;refine X14 ?_;refine Xgo ?_;refine X6 ?_;refine Xgp ?_;refine X6 ?_;refine Xhw ?_;refine X42 ?_;intro K hK;refine Xfu ?_;refine Xfv ?_;rintro e w ⟨rfl,rfl⟩;refine X7l ?_;clear hK K;go_upto_region 5 with fail;refine Xex ?_;go_upto_region 6 with fail;refine X7v ?_;go_wp2_with fail;go_ret;exact⟨⟨_,rfl⟩,HL.below⟩
theorem dcv_roll(h:DcV D w gd gs g gv gm σ vs vf vl root)(R:List Int)(hI:σ.Inv (rt1 root R) [])(hnd:(vl.map Prod.fst).Nodup)(s:LU)(hs:s.length≤20)(z:Int)(t:Tre)(ht:IsT σ z 0 t)(j:Nat)(hj:vl[j]? = some (s,z))(hRl:R.length≤400000000) :
  Calls prog 80 #[pG gd,.string ⟨s.toArray⟩] w (RolO D w gd gs g gv gm σ vl R t z):=by
 have HH:=hZ h;have hc0:=h.c0;have hc1:=h.c1;have hc2:=h.c2;have HI:=hZ hI;have HT:=hZ ht;have HRL:=hZ hRl;refine Xft ?_;intro CR;have hgd:Old w gd∧¬ D gd:=⟨h.blk.lt,h.fd⟩;clear h hI ht hnd hj hRl;obtain⟨w0,rfl,HL⟩:=lS w;have HIN:Hid (InS D w0 gs g σ (rt1 root R) σ.used σ w0):=hZ ⟨⟨D,vs,vf,HH.out.st,Stp.refl _ _⟩,HI.out,fun i hi hc=>⟨hi,rfl,rfl,hc⟩,rfl,Nat.le_refl _⟩;go_enter func80,ntmps80;go_upto_region 0 with fail;refine X1j ?_;go_upto_region 1 with fail;refine X1v ?_;intro K hK;refine Xhu ?_;refine Xhv ?_;rintro e w ⟨rfl,rfl⟩;refine X2m ?_;clear hK K;go_upto_region 2 with fail;refine Xew ?_;go_upto_region 4 with fail;refine X14 ?_;refine Xgo ?_;refine X6 ?_;refine Xgp ?_;refine X6 ?_;refine xaa rfl _ (xa8 sc161 HL _ rfl _ rfl _ hgd.1 hc0) ?_;refine X42 ?_;intro K hK;refine Xfu ?_
 refine Xfv ?_;rintro e w ⟨rfl,rfl⟩;refine X7l ?_;clear hK K;go_upto_region 5 with fail;refine Xew ?_;clear HL;have HL:=HIN.out.st.loc;obtain⟨bo,hbo⟩:∃ bo,(z==0)=bo:=⟨_,rfl⟩;have HBO:=hZ hbo;clear hbo;go_upto_region 7 with fail;refine X12 ?_;refine Xh0 ?_;refine X1z ?_
 go_upto_if 28 with fail
 go_cut [8] from 9 (fun _ wx=>∃ σ1,InS D w0 gs g σ (rt1 z (rt1 root R)) σ.used σ1 wx∧IsT σ1 z 0 t)
 case first =>
  cases bo with
  | true =>
   go_wp2_with fail;go_meet
   case rel=>exact⟨σ,by unfold rt1;rw[if_pos (by simpa using HBO.out)];exact HIN.out,HT.out⟩
  | false =>
   have HZ:Hid (z≠0):=hZ (by simpa using HBO.out);obtain⟨σ8,CH,hI8,hY8,hr8,hu8⟩:=xgk HIN.out.inv z HZ.out 0 t HT.out (by have:=HRL.out;have:=xd5 root R;omega);have HCH:=hZ CH;clear CH;go_upto_region 8 with fail;refine Xf4 ?_;refine X6 ?_;refine xaa rfl _ (xa8 xl1 HL _ rfl _ rfl _ hgd hc1) ?_;refine X42 ?_;intro K hK;refine X9r ?_;(with_reducible refine(HIN.out.st.goes' (fun D w vs vf h↦HCH.out D w gs g vs vf h)).mono ?_);rintro e w ⟨rfl,hst8⟩;have HI8:Hid (InS D w0 gs g σ (z::rt1 root R) σ.used σ8 w):=hZ (HIN.out.next hst8 hI8 hY8 hr8 (by rw[hu8];exact HIN.out.used));have HT8:=hZ (HT.out.stay hY8);clear HL hst8 hI8 hY8 hr8 hu8;have HL:=HI8.out.st.loc;refine X2m ?_;clear hK K;go_upto_region 9 with fail;refine Xew ?_;go_wp2_with fail;go_meet
   case rel=>exact⟨σ8,by unfold rt1;rw[if_neg HZ.out];exact HI8.out,HT8.out⟩
 case rest =>
  clear HL;obtain⟨σ1,hin1,ht1⟩:=hcut;obtain⟨w,rfl⟩:=eW wc;have HI1:=hZ hin1;have HT1:=hZ ht1;clear hin1 ht1 HBO;have HL:=HI1.out.st.loc;obtain⟨bo,hbo⟩:∃ bo,(root==0)=bo:=⟨_,rfl⟩;have HBO:=hZ hbo;clear hbo;go_upto_region 11 with fail;refine X14 ?_;refine Xf3 ?_;refine xaa rfl _ (xa8 sc3 HL _ rfl _ rfl _ hgd hc2) ?_;refine X6 ?_;refine Xh0 ?_;refine X1z ?_
  go_upto_if 42 with fail
  go_cut [] from 9 (fun wx=>∃ σ2,StO D w0 gs g σ2 wx∧σ2.Inv (rt1 z R) []∧σ.Keeps R σ2∧IsT σ2 z 0 t∧σ2.room=σ.room∧σ2.used≤σ.used)
  case first =>
   cases bo with
   | true =>
    go_wp2_with fail;go_meet
    case rel =>
     have h0:root=0:=by simpa using HBO.out
     have h1:=HI1.out;have h2:=HI.out;rw[show rt1 root R=R by unfold rt1;rw[if_pos h0]] at h1 h2;exact⟨σ1,h1.st,h1.inv,h1.stay.keeps h2,HT1.out,h1.room,h1.used⟩
   | false =>
    have HZ:Hid (root≠0∧rt1 root R=root::R):=hZ (by
     have h0:root≠0:=by simpa using HBO.out
     exact⟨h0,by unfold rt1;rw[if_neg h0]⟩)
    have HI1b:Hid (InS D w0 gs g σ (rt1 z (root::R)) σ.used σ1 w.drew):=hZ (by rw[← HZ.out.2];exact HI1.out.below (Below.refl _ _).drew);have HDR:=hZ (xk6 HI1b.out (by rw[← HZ.out.2];exact HI.out) HZ.out.1 HT1.out HRL.out);go_upto_region 12 with fail;refine rB (Loc.P HL) [] [8] [0,1,2,3,4,5,6,7,8] 0 ?_;refine Xfh ?_;intro HL;refine Xh ?_;intro K hK;refine X9t ?_;(with_reducible refine(HDR.out).mono ?_);rintro e w ⟨m9,σ9,rfl,hs9,hq9⟩;have HS9:=hZ hs9;have HQ9:=hZ hq9;clear HL hs9 hq9;have HL:=HS9.out.loc;refine X5a ?_;clear hK K;refine Xb ?_;go_wp2_with fail;go_meet
    case rel=>exact⟨σ9,HS9.out,HQ9.out⟩
  case rest =>
   clear HL HI1 HT1;obtain⟨σ2,⟨D2,vs2,vf2,hP2,hS2⟩,hq2⟩:=hcut;obtain⟨w,rfl⟩:=eW wc;have HD2:=hZ (HH.out.turned hS2 hP2);have HS2:Hid (Stp (dA D gd gv gm) w0 (dA D2 gd gv gm) w):=hZ hS2.dict;have HQ2:=hZ hq2;clear hP2 hS2 hq2;have HL:=(Loc.start w).adopt (fun k=>k=gd) [(gd,166,[pG gv,pG gs,iV root])] (by simp;exact HD2.out.blk) (by simp);simp only[qn] at HL;obtain⟨w2,rfl⟩:=eW w;go_upto_region 13 with fail;refine X30 ?_;refine Xf3 ?_;refine Xfi ?_;refine X34 ?_;clear HL;intro w HL;go_upto_region 14 with fail;refine X1j ?_;go_wp2_with fail;go_ret;have hf:=HL.frS;exact⟨_,D2,vs2,vf2,σ2,rfl,HD2.out.rooted z (HL.blk (.head _)) hf,HS2.out.trans (xh1 hf),HQ2.out⟩
end
def rts(vl:List (LU×Int)):List Int:=(vl.map Prod.snd).filter fun z=>decide (z≠0)
theorem xf2(vl:List (LU×Int)):(rts vl).length≤vl.length:=by
 unfold rts;have:=List.length_filter_le (fun z:Int=>decide (z≠0)) (vl.map Prod.snd);simpa using this
theorem rts_mem{vl:List (LU×Int)}{x:LU×Int}(h:x∈vl):x.2=0∨x.2∈rts vl:=by
 by_cases hz:x.2=0
 ·exact .inl hz
 ·exact .inr (List.mem_filter.2 ⟨List.mem_map.2 ⟨x,h,rfl⟩,by simpa using hz⟩)
theorem rts_snoc(vl:List (LU×Int))(s:LU)(z:Int):rts (vl++[(s,z)])=rts vl++rt1 z []:=by
 unfold rts rt1;by_cases hz:z=0
 ·subst hz;simp
 ·simp[hz]
theorem xk7(x:LU×Int)(vl:List (LU×Int)):rts (x::vl)=if x.2=0 then rts vl else x.2::rts vl:=by
 unfold rts;by_cases hz:x.2=0
 ·simp[hz]
 ·simp[hz]
theorem xp5:∀ (vl:List (LU×Int)) (j:Nat) (s:LU) (z:Int),vl[j]? = some (s,z)→xmk (rts vl) (rts (vl.eraseIdx j)) z
 | [],j,s,z,h=>by simp at h
 | x::vl,0,s,z,h=>by
  simp only[qd,Option.some.injEq] at h;subst h;rw[List.eraseIdx_cons_zero,xk7];by_cases hz:z=0
  ·exact .inl ⟨hz,by rw[if_pos hz]⟩
  ·exact .inr ⟨hz,fun y=>by rw[if_neg hz,List.count_cons,xd2]⟩
 | x::vl,j+1,s,z,h=>by
  rw[List.getElem?_cons_succ] at h;rw[List.eraseIdx_cons_succ,xk7,xk7];rcases xp5 vl j s z h with⟨h1,h2⟩ | ⟨h1,h2⟩
  ·exact .inl ⟨h1,by rw[h2]⟩
  ·refine .inr ⟨h1,fun y=>?_⟩
   split
   ·exact h2 y
   ·rw[List.count_cons,List.count_cons,h2 y];omega
theorem xva{R R':List Int}{z root:Int}(h:xmk R R' z):xmk (rt1 root R) (rt1 root R') z:=by
 rcases h with⟨h1,h2⟩ | ⟨h1,h2⟩
 ·exact .inl ⟨h1,by rw[h2]⟩
 ·refine .inr ⟨h1,fun y=>?_⟩
  unfold rt1
  split
  ·exact h2 y
  ·rw[List.count_cons,List.count_cons,h2 y];omega
theorem xj0{z:Int}{R:List Int}:∀ y∈R,y∈rt1 z R:=fun y hy=>by unfold rt1;split<;>simp[hy]
structure DvS (S:Nat→Prop)(w:World)(gd:Nat)(t:Tre)(u:Nat)(D:Nat→Prop)(gs g gv gm:Nat)(σ:Sb)(vs vf:Sv)(vl:List (LU×Int))(root:Int):Prop where
 dc:DcV D w gd gs g gv gm σ vs vf vl root
 inv:σ.Inv (rt1 root (rts vl)) []
 it:IsT σ root 0 t
 ok:t.Ok 0
 sz:t.size≤u
 vt:∀ x∈vl,∃ tv:Tre,IsT σ x.2 0 tv∧tv.Ok 0∧tv.size≤u
 nd:(vl.map Prod.fst).Nodup
 l16:vl.length≤16
 room:σ.room=60000
 used:σ.used≤u
 eS:S=dA D gd gv gm
def DkV(S:Nat→Prop)(w:World)(gd:Nat)(t:Tre)(u:Nat):Prop:=∃ D gs g gv gm σ vs vf vl root,DvS S w gd t u D gs g gv gm σ vs vf vl root
def DkN(S:Nat→Prop)(w:World)(gd u:Nat)(e:Ending)(w':World):Prop:=(∃ r:Value,e=.returned r)∧∃ (S':Nat→Prop)(t':Tre),DkV S' w' gd t' u∧Stp S w S' w'
theorem xj1{σ σ':Sb}{vl:List (LU×Int)}{u u':Nat}{RR:List Int}(h:∀ x∈vl,∃ tv:Tre,IsT σ x.2 0 tv∧tv.Ok 0∧tv.size≤u)(hK:σ.Keeps (rts vl) σ')(hI:σ'.Inv RR [])(hs:∀ z∈rts vl,z∈RR)(hu:u≤u'):∀ x∈vl,∃ tv:Tre,IsT σ' x.2 0 tv∧tv.Ok 0∧tv.size≤u':=fun x hx=>by
 obtain⟨tv,h1,h2,h3⟩:=h x hx;exact⟨tv,h1.keep hK hI hs ((rts_mem hx).imp id (.root _)),h2,by omega⟩
section
variable {S:Nat→Prop}{w w':World}{gd u:Nat}{t:Tre}
theorem DkV.below(h:DkV S w gd t u)(hb:Bw w w'):DkV S w' gd t u:=by
 obtain⟨D,gs,g,gv,gm,σ,vs,vf,vl,root,h⟩:=h;exact⟨D,gs,g,gv,gm,σ,vs,vf,vl,root,⟨h.dc.below hb,h.inv,h.it,h.ok,h.sz,h.vt,h.nd,h.l16,h.room,h.used,h.eS⟩⟩
theorem DkV.lt(h:DkV S w gd t u):∀ k,S k→k<w.heap.size:=by
 obtain⟨D,gs,g,gv,gm,σ,vs,vf,vl,root,h⟩:=h;rw[h.eS];exact h.dc.lt
theorem DkV.ok(h:DkV S w gd t u):t.Ok 0:=by
 obtain⟨D,gs,g,gv,gm,σ,vs,vf,vl,root,h⟩:=h;exact h.ok
theorem DkV.more(h:DkV S w gd t u){u':Nat}(hu:u≤u'):DkV S w gd t u':=by
 obtain⟨D,gs,g,gv,gm,σ,vs,vf,vl,root,h⟩:=h;exact⟨D,gs,g,gv,gm,σ,vs,vf,vl,root,⟨h.dc,h.inv,h.it,h.ok,by have:=h.sz;omega,fun x hx=>by obtain⟨tv,h1,h2,h3⟩:=h.vt x hx;exact⟨tv,h1,h2,by omega⟩,h.nd,h.l16,h.room,by have:=h.used;omega,h.eS⟩⟩
theorem DkV.same(h:DkV S w gd t u){u':Nat}(hu:u≤u')(hb:Bw w w'){e:Ending}(he:∃ r:Value,e=.returned r):DkN S w gd u' e w':=⟨he,S,t,(h.below hb).more hu,Stp.of_below hb⟩
theorem dk_newV(w:World):Calls prog 36 #[iV 60000] w fun e w'=>∃ gd S,e=.returned (.tuple #[pG gd,iV 0])∧DkV S w' gd .nil 0∧(∀ k,S k→w.heap.size≤k)∧Bw w w':=by
 refine(xuy 60000 (by omega) (by omega)).mono ?_;rintro e w' ⟨gd,gs,g,gv,gm,D,h1,h2,h3,h4⟩;exact⟨gd,dA D gd gv gm,h1,⟨D,gs,g,gv,gm,_,_,_,[],0,⟨h2,inv_new 60000 (by omega) (by omega),rfl,trivial,Nat.le_refl _,fun x hx=>(by cases hx),List.nodup_nil,Nat.zero_le _,rfl,Nat.le_refl _,rfl⟩⟩,h3,h4⟩
theorem xp6(h:DkV S w gd t u):Calls prog 29 #[pG gd,.string ⟨#[]⟩] w (oB w (.tuple #[t.dg.a,iV 0])):=by
 obtain⟨D,gs,g,gv,gm,σ,vs,vf,vl,root,h⟩:=h;exact dc_rootV h.dc.dc t.dg (fun v hv=>dig_ok hv h.it)
theorem xtb{D:Nat→Prop}{gs g gv gm:Nat}{σ:Sb}{vs vf:Sv}{vl:List (LU×Int)}{root:Int}(h:DvS S w gd t u D gs g gv gm σ vs vf vl root){key:D32}{o:Option LU}{e:Ending}(h1:DctO D w gd gs g gv gm σ vl (rts vl) t key o e w'):∃ (r:Value)(S':Nat→Prop)(t':Tre),e=.returned r∧(o.isSome=true→r=iV 0)∧DkV S' w' gd t' (u+258)∧Stp S w S' w'∧SpK 0 t key o t':=by
 obtain⟨r,t',z,D',vs',vf',σ',he,hr,h2,h3,h4,h5,h6,h7,h8,h9⟩:=h1;have hs:=h9.sz;rw[List.length_singleton] at hs;have h10:=h.sz;have h11:=h.used;refine⟨r,dA D' gd gv gm,t',he,(fun h=>by cases o with | none=>cases h | some x=>exact hr),⟨D',gs,g,gv,gm,σ',vs',vf',vl,z,⟨h2,h4,h6,h9.ok,by omega,xj1 h.vt h5 h4 xj0 (by omega),h.nd,h.l16,by rw[h7,h.room],by omega,rfl⟩⟩,?_,h9⟩;rw[h.eS];exact h3
theorem xtc(h:DkV S w gd t u)(hu:u+258≤60000)(A:Option Addr)(c:Nat)(key:D32)(hr:Rd w A (bvs key.l))(hc:32≤c)(B:Option Addr)(m d:Nat)(cv:LU)(hv:Rd w B (bvs cv))(hn:cv.length=m∧m≤d∧d≤maxLen∧m≤1024) :
  Calls prog 34 #[pG gd,.slice A 32 c,.slice B m d] w fun e w'=>∃ (S':Nat→Prop)(t':Tre),e=.returned (iV 0)∧DkV S' w' gd t' (u+258)∧Stp S w S' w'∧SpK 0 t key (some cv) t':=by
 obtain⟨D,gs,g,gv,gm,σ,vs,vf,vl,root,h⟩:=h;have h1:=h.used;have h2:=h.sz;have h3:=xf2 vl;have h4:=h.l16;refine(dcv_put h.dc (rts vl) t (by omega) (by omega) h.inv h.it h.ok (by rw[h.room];omega) A c key hr hc B m d cv hv hn).mono ?_;intro e w' h5;obtain⟨r,S',t',he,hr,h6,h7,h8⟩:=xtb h h5;have hr:=hr rfl;subst hr;exact⟨S',t',he,h6,h7,h8⟩
theorem dk_putN(h:DkV S w gd t u)(hu:u+2064≤60000)(k v:Sv)(l cv:LU)(hk:Tx w k.A k.n k.c l)(hb:l.length≤140737488351232)(hv:Tx w v.A v.n v.c cv):Calls prog 34 #[pG gd,k.v,v.v] w (DkN S w gd (u+2064)):=by
 have hkl:=hk.len;have hkc:=hk.cap;by_cases h32:l.length=32
 ·obtain⟨kA,kn,kc⟩:=k
  simp only at hkl hkc;obtain rfl:kn=32:=by omega
  by_cases hlong:1024<v.n
  ·obtain⟨D,gs,g,gv,gm,σ,vs,vf,vl,root,h0⟩:=id h
   refine(xob h0.dc (by rw[h0.room];omega) kA kc (keyD l) (by rw[xn0 h32];exact hk.rd) hkc v.A v.n v.c hlong).mono ?_;rintro e w' ⟨rfl,hb2⟩;exact h.same (by omega) hb2 ⟨_,rfl⟩
  ·refine(xtc h (by omega) kA kc (keyD l) (by rw[xn0 h32];exact hk.rd) hkc v.A v.n v.c cv hv.rd ⟨hv.len,hv.cap,hv.max,by omega⟩).mono ?_
   rintro e w' ⟨S',t',rfl,h1,h2,_⟩;exact⟨⟨_,rfl⟩,S',t',h1.more (by omega),h2⟩
 ·obtain⟨D,gs,g,gv,gm,σ,vs,vf,vl,root,h0⟩:=id h
  refine(xp2 h0.dc k.A k.n k.c l hk.rd hkl (by omega) hkc h32 v.A v.n v.c).mono ?_;rintro e w' ⟨rfl,hb2⟩;exact h.same (by omega) hb2 ⟨_,rfl⟩
theorem dk_delN(h:DkV S w gd t u)(hu:u+2064≤60000)(k:Sv)(l:LU)(hk:Tx w k.A k.n k.c l)(hb:l.length≤140737488351232):Calls prog 131 #[pG gd,k.v] w (DkN S w gd (u+2064)):=by
 have hkl:=hk.len;have hkc:=hk.cap;obtain⟨D,gs,g,gv,gm,σ,vs,vf,vl,root,h0⟩:=id h;by_cases h32:l.length=32
 ·obtain⟨kA,kn,kc⟩:=k
  simp only at hkl hkc;obtain rfl:kn=32:=by omega
  have h1:=h0.used;have h2:=h0.sz;have h3:=xf2 vl;have h4:=h0.l16;refine(dcv_del h0.dc (rts vl) t (by omega) (by omega) h0.inv h0.it h0.ok (by rw[h0.room];omega) kA kc (keyD l) (by rw[xn0 h32];exact hk.rd) hkc).mono ?_;intro e w' h5;obtain⟨r,S',t',he,hr,h6,h7,h8⟩:=xtb h0 h5;exact⟨⟨r,he⟩,S',t',h6.more (by omega),h7⟩
 ·refine(xp3 h0.dc k.A k.n k.c l hk.rd hkl (by omega) hkc h32).mono ?_
  rintro e w' ⟨rfl,hb2⟩;exact h.same (by omega) hb2 ⟨_,rfl⟩
theorem dk_batN(h:DkV S w gd t u)(hu:u+2064≤60000)(v:Sv)(rs:List RE)(hW:RawT S w v.A v.n v.c rs)(hn:v.n≤8)(hbig:∀ e∈rs,e.k.length≤140737488351232):Calls prog 74 #[pG gd,v.v] w (DkN S w gd (u+2064)):=by
 obtain⟨D,gs,g,gv,gm,σ,vs,vf,vl,root,h0⟩:=id h;have h1:=h0.used;have h2:=h0.sz;have h3:=xf2 vl;have h4:=h0.l16;refine(dc_batch h0.dc (rts vl) t h0.inv h0.it h0.ok v.A v.n v.c rs (hW.weak fun k hk=>by rw[h0.eS];exact .inl hk) (by omega) hbig (by omega) (by omega) (by rw[h0.room];omega) (by rw[h0.room];omega)).mono ?_;rintro e w' (⟨_,rfl,hb2⟩ | ⟨_,t',z,D',vs',vf',σ',rfl,h5,h6,h7,h8,h9,h10,h11,h12⟩)
 ·exact h.same (by omega) hb2 ⟨_,rfl⟩
 ·have hs:=h12.sz
  rw[List.length_map] at hs;have hl:=hW.len;refine⟨⟨_,rfl⟩,dA D' gd gv gm,t',⟨D',gs,g,gv,gm,σ',vs',vf',vl,z,⟨h5,h7,h9,h12.ok,by omega,xj1 h0.vt h8 h7 (fun y hy=>by split<;>simp[hy]) (by omega),h0.nd,h0.l16,by rw[h10,h0.room],by omega,rfl⟩⟩,?_⟩;rw[h0.eS];exact h6
theorem dk_snaN(h:DkV S w gd t u)(hu:u+2064≤60000)(s:LU)(hs:s.length≤maxLen):Calls prog 72 #[pG gd,.string ⟨s.toArray⟩] w (DkN S w gd (u+2064)):=by
 obtain⟨D,gs,g,gv,gm,σ,vs,vf,vl,root,h0⟩:=id h;have h3:=xf2 vl;have h4:=h0.l16;refine(dcv_snap h0.dc (rt1 root (rts vl)) h0.inv t h0.it (by have:=xd5 root (rts vl);omega) s hs h0.nd).mono ?_;rintro e w' (⟨r,rfl,hb2⟩ | ⟨a1,a2,a3,r,σ',rfl,h5,h6,h7,h8,h9,h10⟩)
 ·exact h.same (by omega) hb2 ⟨_,rfl⟩
 ·have hI:σ'.Inv (rt1 root (rts (vl++[(s,root)]))) []:=by
   rw[rts_snoc];refine h7.congr (fun y=>?_) (fun _=>rfl);unfold rt1
   split
   ·simp
   ·simp only[List.count_cons,List.count_append,List.count_nil];omega
  refine⟨⟨_,rfl⟩,dA D gd gv gm,t,⟨D,gs,g,gv,gm,σ',vs,vf,vl++[(s,root)],root,⟨h5,hI,h0.it.stay h8,h0.ok,by have:=h0.sz;omega,fun x hx=>?_,?_,by simp;omega,by rw[h9,h0.room],by rw[h10];have:=h0.used;omega,rfl⟩⟩,?_⟩
  ·rcases List.mem_append.1 hx with hx | hx
   ·obtain⟨tv,q1,q2,q3⟩:=h0.vt x hx
    exact⟨tv,q1.stay h8,q2,by omega⟩
   ·rw[List.mem_singleton.1 hx]
    exact⟨t,h0.it.stay h8,h0.ok,by have:=h0.sz;omega⟩
  ·rw[List.map_append,List.nodup_append]
   refine⟨h0.nd,by simp,fun a ha b hb e=>a1 ?_⟩;simp only[qk,ql,List.mem_singleton] at hb;rw[← hb,← e];exact ha
  ·rw[h0.eS];exact stp_dA h6
theorem dk_rolN(h:DkV S w gd t u)(hu:u+2064≤60000)(s:LU)(hs:s.length≤maxLen):Calls prog 80 #[pG gd,.string ⟨s.toArray⟩] w (DkN S w gd (u+2064)):=by
 obtain⟨D,gs,g,gv,gm,σ,vs,vf,vl,root,h0⟩:=id h;have h3:=xf2 vl;have h4:=h0.l16;by_cases hm:s∈vl.map Prod.fst
 ·obtain⟨x,hx,rfl⟩:=List.mem_map.1 hm
  obtain⟨j,hj,rfl⟩:=List.getElem_of_mem hx;obtain⟨tv,q1,q2,q3⟩:=h0.vt _ hx;refine(dcv_roll h0.dc (rts vl) h0.inv h0.nd vl[j].1 (h0.dc.short _ hx) vl[j].2 tv q1 j (List.getElem?_eq_getElem hj) (by omega)).mono ?_;rintro e w' ⟨r,D',vs',vf',σ',rfl,h5,h6,h7,h8,h9,h10,h11⟩;refine⟨⟨_,rfl⟩,dA D' gd gv gm,tv,⟨D',gs,g,gv,gm,σ',vs',vf',vl,vl[j].2,⟨h5,h7,h9,q2,by omega,xj1 h0.vt h8 h7 xj0 (by omega),h0.nd,h0.l16,by rw[h10,h0.room],by have:=h0.used;omega,rfl⟩⟩,?_⟩;rw[h0.eS];exact h6
 ·refine(xp4 h0.dc s hs hm).mono ?_
  rintro e w' ⟨hr,hb2⟩;exact h.same (by omega) hb2 hr
theorem dk_pruN(h:DkV S w gd t u)(hu:u+2064≤60000)(s:LU)(hs:s.length≤maxLen):Calls prog 73 #[pG gd,.string ⟨s.toArray⟩] w (DkN S w gd (u+2064)):=by
 obtain⟨D,gs,g,gv,gm,σ,vs,vf,vl,root,h0⟩:=id h;have h3:=xf2 vl;have h4:=h0.l16;by_cases hm:s∈vl.map Prod.fst
 ·obtain⟨x,hx,rfl⟩:=List.mem_map.1 hm
  obtain⟨j,hj,rfl⟩:=List.getElem_of_mem hx;obtain⟨tv,q1,q2,q3⟩:=h0.vt _ hx;have hL:=xp5 vl j vl[j].1 vl[j].2 (List.getElem?_eq_getElem hj);have h5:=xf2 (vl.eraseIdx j);have h6:(vl.eraseIdx j).length≤vl.length:=(List.eraseIdx_sublist _ _).length_le;refine(xu9 h0.dc (rt1 root (rts vl)) (rt1 root (rts (vl.eraseIdx j))) h0.inv h0.nd vl[j].1 (h0.dc.short _ hx) vl[j].2 tv q1 j (List.getElem?_eq_getElem hj) (xva hL) (by have:=xd5 root (rts vl);omega) (by have:=xd5 root (rts (vl.eraseIdx j));omega)).mono ?_;rintro e w' ⟨m,D',vs',vf',σ',rfl,h7,h8,h9,h10,h11,h12⟩;have hsub:∀ x∈vl.eraseIdx j,x∈vl:=fun x hx=>(List.eraseIdx_sublist _ _).subset hx
  have hK:σ.Keeps (rts (vl.eraseIdx j)) σ':=h10.less xj0;refine⟨⟨_,rfl⟩,dA D' gd gv gm,t,⟨D',gs,g,gv,gm,σ',vs',vf',vl.eraseIdx j,root,⟨h7,h9,h0.it.keep h10 h9 (fun y hy=>hy) ?_,h0.ok,by have:=h0.sz;omega,xj1 (fun x hx=>h0.vt x (hsub x hx)) hK h9 xj0 (by omega),?_,by omega,by rw[h12,h0.room],by have:=h0.used;omega,rfl⟩⟩,?_⟩
  ·by_cases hz:root=0
   ·exact .inl hz
   ·exact .inr (.root _ (by unfold rt1;rw[if_neg hz];simp))
  ·exact h0.nd.sublist ((List.eraseIdx_sublist _ _).map _)
  ·rw[h0.eS];exact h8
 ·refine(xoc h0.dc s hs hm).mono ?_
  rintro e w' ⟨hr,hb2⟩;exact h.same (by omega) hb2 hr
end
structure Acv where
 kind:Nat
 name:LU
 key:Sv
 val:Sv
 ls:Sv
 most:Int
def Acv.cells(x:Acv):List Value:=[.int .u8 (x.kind:Int),.string ⟨x.name.toArray⟩,x.key.v,x.val.v,x.ls.v,.int .i64 x.most]
theorem Acv.len(x:Acv):x.cells.length=6:=rfl
theorem Acv.one(x:Acv):∀ u∈x.cells,u.oneCell'=true:=by
 intro u hu;simp only[Acv.cells,List.mem_cons,List.not_mem_nil,or_false] at hu;rcases hu with rfl | rfl | rfl | rfl | rfl | rfl<;>rfl
theorem Acv.g_kind(x:Acv):x.cells[0]? = some (Value.int .u8 (x.kind:Int)):=rfl
theorem Acv.g_name(x:Acv):x.cells[1]? = some (Value.string ⟨x.name.toArray⟩):=rfl
theorem Acv.g_key(x:Acv):x.cells[2]? = some (x.key.v):=rfl
theorem Acv.g_val(x:Acv):x.cells[3]? = some (x.val.v):=rfl
theorem Acv.g_ls(x:Acv):x.cells[4]? = some (x.ls.v):=rfl
theorem Acv.s_ls(x:Acv)(y:Sv):x.cells.set 4 (y.v)=({x with ls:=y}:Acv).cells:=rfl
structure ActK (S:Nat→Prop)(w:World)(a:Acv)(l cv:LU)(rs:List RE):Prop where
 k:Tx w a.key.A a.key.n a.key.c l
 kb:l.length≤140737488351232
 v:Tx w a.val.A a.val.n a.val.c cv
 r:RawT S w a.ls.A a.ls.n a.ls.c rs
 rb:∀ e∈rs,e.k.length≤140737488351232
 r8:a.ls.n≤8
 nm:a.name.length≤maxLen
theorem ActK.below{S:Nat→Prop}{w w':World}{a:Acv}{l cv:LU}{rs:List RE}(h:ActK S w a l cv rs)(hb:Bw w w'):ActK S w' a l cv rs:=⟨h.k.below hb,h.kb,h.v.below hb,h.r.below hb,h.rb,h.r8,h.nm⟩
section
variable {S:Nat→Prop}{w w':World}{gd u:Nat}{t:Tre}
theorem do_any(h:DkV S w gd t u)(hu:u+2064≤60000)(a:Acv)(l cv:LU)(rs:List RE)(ha:ActK S w a l cv rs):Calls prog 81 #[pG gd,.agg a.cells.toArray] w (DkN S w gd (u+2064)):=by
 have HH:=hZ h;have HA:=hZ ha;clear h ha;obtain⟨w0,rfl,HL⟩:=lS w;by_cases h0:a.kind=0
 ·have k0:((a.kind:Int)==0)=true:=by rw[h0];rfl
  clear h0;go_enter func81,ntmps81;go_upto_region 0 with fail;refine X39 ?_;clear HL;intro g3 w HL;refine X1z ?_;go_upto_region 1 with fail;refine Xhx ?_;go_upto_region 2 with fail;refine Xt ?_;refine xaa rfl _ (xao (b:=true) _ _ rfl _ _ rfl rfl k0) ?_;refine X1a ?_;go_upto_region 3 with fail;refine X12 ?_;refine xaa rfl _ (xaf xr7 _ rfl _ rfl) ?_;refine Xhy ?_;refine X6 ?_;refine xaa rfl _ (xaf fa159_3 _ rfl _ rfl) ?_;refine X6 ?_;refine xaa rfl _ (xai sc25 HL _ rfl _ _ rfl _ _ _ (.head _) (Acv.g_val _)) ?_;refine X50 ?_;intro K hK;refine Xhz ?_;(with_reducible refine(dk_putN (HH.out.below HL.below) hu a.key a.val l cv (HA.out.below HL.below).k HA.out.kb (HA.out.below HL.below).v).mono ?_);rintro e w ⟨⟨r,rfl⟩,S',t',hd,hs⟩;have HD:=hZ hd;refine Xi0 ?_;intro HS;clear hd hs
  refine X20 ?_;clear hK K;go_wp2_with fail;refine Xbu ?_;exact⟨⟨_,rfl⟩,S',t',HD.out,HS.out⟩
 have k0:((a.kind:Int)==0)=false:=nB (by omega);clear h0;by_cases h1:a.kind=1
 ·have k1:((a.kind:Int)==1)=true:=by rw[h1];rfl
  clear h1;go_enter func81,ntmps81;go_upto_region 0 with fail;refine X39 ?_;clear HL;intro g3 w HL;refine X1z ?_;go_upto_region 1 with fail;refine Xhx ?_;go_upto_region 2 with fail;refine Xd1 ?_;go_upto_region 4 with fail;refine Xt ?_;refine Xg6 ?_;refine X1a ?_;go_upto_region 5 with fail;refine X12 ?_;refine xaa rfl _ (xaf xr7 _ rfl _ rfl) ?_;refine Xhy ?_;refine X50 ?_;intro K hK;refine xad cf131 rfl _ rfl ?_;refine X1w ?_;(with_reducible refine(dk_delN (HH.out.below HL.below) hu a.key l (HA.out.below HL.below).k HA.out.kb).mono ?_);rintro e w ⟨⟨r,rfl⟩,S',t',hd,hs⟩;have HD:=hZ hd;refine Xi0 ?_;intro HS;clear hd hs;refine X20 ?_;clear hK K;go_wp2_with fail;refine Xbu ?_;exact⟨⟨_,rfl⟩,S',t',HD.out,HS.out⟩
 have k1:((a.kind:Int)==1)=false:=nB (by omega);clear h1;by_cases h2:a.kind=2
 ·have k2:((a.kind:Int)==2)=true:=by rw[h2];rfl
  clear h2;go_enter func81,ntmps81;go_upto_region 0 with fail;refine X39 ?_;clear HL;intro g3 w HL;refine X1z ?_;go_upto_region 1 with fail;refine Xhx ?_;go_upto_region 2 with fail;refine Xd1 ?_;go_upto_region 4 with fail;refine Xd3 ?_;go_upto_region 6 with fail;refine Xt ?_;refine Xg4 ?_;refine X1a ?_;go_upto_region 7 with fail;refine X12 ?_;refine Xi1 ?_;refine X6 ?_;refine Xi2 ?_;refine X50 ?_;intro K hK;refine xad cf74 rfl _ rfl ?_;refine X1w ?_;(with_reducible refine(dk_batN (HH.out.below HL.below) hu a.ls rs (HA.out.below HL.below).r HA.out.r8 HA.out.rb).mono ?_);rintro e w ⟨⟨r,rfl⟩,S',t',hd,hs⟩;have HD:=hZ hd;refine Xi0 ?_;intro HS;clear hd hs;refine X20 ?_;clear hK K;go_wp2_with fail;refine Xbu ?_;exact⟨⟨_,rfl⟩,S',t',HD.out,HS.out⟩
 have k2:((a.kind:Int)==2)=false:=nB (by omega);clear h2;by_cases h7:a.kind=7
 ·have k7:((a.kind:Int)==7)=true:=by rw[h7];rfl
  clear h7;go_enter func81,ntmps81;go_upto_region 0 with fail;refine X39 ?_;clear HL;intro g3 w HL;refine X1z ?_;go_upto_region 1 with fail;refine Xhx ?_;go_upto_region 2 with fail;refine Xd1 ?_;go_upto_region 4 with fail;refine Xd3 ?_;go_upto_region 6 with fail;refine Xg5 ?_;go_upto_region 8 with fail;refine Xt ?_;refine xaa rfl _ (xao (b:=true) _ _ rfl _ _ rfl rfl k7) ?_;refine X1a ?_;go_upto_region 9 with fail;refine X12 ?_;refine Xi3 ?_;refine X6 ?_;refine Xi4 ?_;refine X50 ?_;intro K hK;refine xad cf72 rfl _ rfl ?_;refine X1w ?_;(with_reducible refine(dk_snaN (HH.out.below HL.below) hu a.name HA.out.nm).mono ?_);rintro e w ⟨⟨r,rfl⟩,S',t',hd,hs⟩;have HD:=hZ hd;refine Xi0 ?_;intro HS;clear hd hs;refine X20 ?_;clear hK K;go_wp2_with fail;refine Xbu ?_;exact⟨⟨_,rfl⟩,S',t',HD.out,HS.out⟩
 have k7:((a.kind:Int)==7)=false:=nB (by omega);clear h7;by_cases h8:a.kind=8
 ·have k8:((a.kind:Int)==8)=true:=by rw[h8];rfl
  clear h8;go_enter func81,ntmps81;go_upto_region 0 with fail;refine X39 ?_;clear HL;intro g3 w HL;refine X1z ?_;go_upto_region 1 with fail;refine Xhx ?_;go_upto_region 2 with fail;refine Xd1 ?_;go_upto_region 4 with fail;refine Xd3 ?_;go_upto_region 6 with fail;refine Xg5 ?_;go_upto_region 8 with fail;refine Xi5 ?_;go_upto_region 10 with fail;refine Xt ?_;refine xaa rfl _ (xao (b:=true) _ _ rfl _ _ rfl rfl k8) ?_;refine X1a ?_;go_upto_region 11 with fail;refine X12 ?_;refine Xi3 ?_;refine X6 ?_;refine Xi4 ?_;refine X50 ?_;intro K hK;refine xad cf80 rfl _ rfl ?_;refine X1w ?_;(with_reducible refine(dk_rolN (HH.out.below HL.below) hu a.name HA.out.nm).mono ?_);rintro e w ⟨⟨r,rfl⟩,S',t',hd,hs⟩;have HD:=hZ hd;refine Xi0 ?_;intro HS;clear hd hs;refine X20 ?_;clear hK K;go_wp2_with fail;refine Xbu ?_
  exact⟨⟨_,rfl⟩,S',t',HD.out,HS.out⟩
 have k8:((a.kind:Int)==8)=false:=nB (by omega);clear h8;by_cases h9:a.kind=9
 ·have k9:((a.kind:Int)==9)=true:=by rw[h9];rfl
  clear h9;go_enter func81,ntmps81;go_upto_region 0 with fail;refine X39 ?_;clear HL;intro g3 w HL;refine X1z ?_;go_upto_region 1 with fail;refine Xhx ?_;go_upto_region 2 with fail;refine Xd1 ?_;go_upto_region 4 with fail;refine Xd3 ?_;go_upto_region 6 with fail;refine Xg5 ?_;go_upto_region 8 with fail;refine Xi5 ?_;go_upto_region 10 with fail;refine Xt ?_;refine Xhf ?_;refine X1a ?_;go_upto_region 12 with fail;refine Xt ?_;refine Xi6 ?_;refine X1a ?_;go_upto_region 13 with fail;refine X12 ?_;refine Xi3 ?_;refine X6 ?_;refine Xi4 ?_;refine X50 ?_;intro K hK;refine xad cf73 rfl _ rfl ?_;refine X1w ?_;(with_reducible refine(dk_pruN (HH.out.below HL.below) hu a.name HA.out.nm).mono ?_);rintro e w ⟨⟨r,rfl⟩,S',t',hd,hs⟩;have HD:=hZ hd;refine Xi0 ?_;intro HS;clear hd hs;refine X20 ?_;clear hK K;go_wp2_with fail;refine Xbu ?_
  exact⟨⟨_,rfl⟩,S',t',HD.out,HS.out⟩
 have k9:((a.kind:Int)==9)=false:=nB (by omega);clear h9;go_enter func81,ntmps81;go_upto_region 0 with fail;refine X39 ?_;clear HL;intro g3 w HL;refine X1z ?_;go_upto_region 1 with fail;refine Xhx ?_;go_upto_region 2 with fail;refine Xd1 ?_;go_upto_region 4 with fail;refine Xd3 ?_;go_upto_region 6 with fail;refine Xg5 ?_;go_upto_region 8 with fail;refine Xi5 ?_;go_upto_region 10 with fail;refine Xt ?_;refine Xhf ?_;refine X1a ?_;go_upto_region 12 with fail;refine Xt ?_;refine Xi7 ?_;go_wp2_with fail;refine Xbu ?_;exact HH.out.same (by omega) HL.below ⟨_,rfl⟩
end
section
variable {D:Nat→Prop}{w w':World}{gd gs g:Nat}{σ:Sb}{vs vf:Sv}{nm:Value}{root:Int}
theorem xlp{P:Program}{T E S:TypeId}{w:World}{o:Oper}{a:Act}{K:Act→World→Prop}{Q:Exit→Act→World→Prop}(B:BT P T E S)(l c:Operand)(ho:o.op=Op.makeSlice T l c)(kl kc:IntKind)(n m:Nat)(hl:a.eval l=.int kl n)(hc:a.eval c=.int kc m)
  (hnc:n≤m) (hm:m≤281474976710656)
  (h:K (a.put o.dst (.slice (some ⟨w.heap.size,0,none⟩) n m)) (w.alloc (.cells (bvs (List.replicate m 0)).toArray E))):o.wp P a w K Q:=by
 have hr:=xf6 (w:=w) B kl kc n m hnc hm;unfold Oper.wp;simp[execOp,ho,hl,hc,hr,Result.andThen];exact h
theorem xtd(u:World)(Z:List Value):Blk ((u.alloc (.cells Z.toArray 5)).alloc (.cells Z.toArray 5)) u.heap.size 5 Z∧Blk ((u.alloc (.cells Z.toArray 5)).alloc (.cells Z.toArray 5)) (u.alloc (.cells Z.toArray 5)).heap.size 5 Z∧u.heap.size≠(u.alloc (.cells Z.toArray 5)).heap.size∧u.heap.size≤(u.alloc (.cells Z.toArray 5)).heap.size∧Below u.heap.size u ((u.alloc (.cells Z.toArray 5)).alloc (.cells Z.toArray 5)) :=
 ⟨(Blk.new u 5 Z).alloc _,Blk.new _ 5 Z,by simp,by simp,((Below.refl _ _).alloc (Nat.le_refl _) _).alloc (by simp) _⟩
theorem xmn(u:World)(l:LU)(m k:Nat)(cs:Array Value)(hc:cs=(bvs l).toArray):Rd (u.alloc (.cells cs 5 (m,k))) (some ⟨u.heap.size,0,none⟩) (bvs l):=by
 subst hc;intro _;refine⟨_,rfl,?_⟩;intro i v hv;rw[xei,Nat.zero_add]
 have h:(u.alloc (.cells (bvs l).toArray 5 (m,k))).heap[u.heap.size]? = some (.cells (bvs l).toArray 5 (m,k)):=by
  show(u.heap.push _)[u.heap.size]? = _;simp
 unfold World.cell?;simp only[h];simpa using hv
theorem xk8{P:Program}{w:World}{a:Act}{o:Oper}{K:Act→World→Prop}{Q:Exit→Act→World→Prop}(t e:TypeId)(C:Array Value)(n c:Nat)(ht:P.underlying t=some (.slice e))(he:P.underlying e=some (.int .u8))(x:Operand)(ho:o.op=.convert t t x)(hx:a.eval x=.slice (some ⟨w.heap.size,0,none⟩) n c)
  (h:K (a.put o.dst (.slice (some ⟨w.heap.size,0,none⟩) n c)) (w.alloc (.cells C e (C.size,C.size+1)))):o.wp P a (w.alloc (.cells C e)) K Q:=by
 unfold Oper.wp execOp;simp only[ho,hx,Sem.run_bind,Lib.run_convert_bytes_const w t e C n c ht he,Result.andThen_ok];exact h
theorem xix{P:Program}{T:TypeId}{w:World}{a:Act}{o:Oper}{K:Act→World→Prop}{Q:Exit→Act→World→Prop}{zs:List Value}(Z:ZA P T zs)(ho:o.op=.alloc T)(h:K (a.put o.dst (.pointer (some ⟨w.heap.size,0,none⟩))) (w.alloc (.cells zs.toArray T))):o.wp P a w K Q:=by
 obtain⟨zv,hz,hc⟩:=Z.i
 have e:(execOp a.eval o).run P w=.ok (.value (.pointer (some ⟨w.heap.size,0,none⟩))) (w.alloc (.cells zs.toArray T)):=by
  cases hq:P.info? T with
  | none=>simp[hq] at hz
  | some j =>
   have hj:j.zero=some zv:=by simpa[hq] using hz
   unfold execOp;simp[ho,Instr.alloc,zeroValue,typeInfo,hq,hj,newVar,newRow,hc]
 unfold Oper.wp;rw[e];exact h
theorem xrm{n:Nat}{u X:World}(h:Below n u X)(zs:List Value):Blk (X.alloc (.cells zs.toArray 23)) X.heap.size 23 zs:=Blk.new X 23 zs
def hexD:LU:=[54,101,51,52,48,98,57,99,102,102,98,51,55,97,57,56,57,99,97,53,52,52,101,54,98,98,55,56,48,97,50,99,55,56,57,48,49,100,51,102,98,51,51,55,51,56,55,54,56,53,49,49,97,51,48,54,49,55,97,102,97,48,49,100]
theorem hexE:(hexL tagE.l==hexD)=true:=by decide +kernel
theorem xg8{w:World}{g:Nat}{x y:D32}(h:Blk w g 23 (splice x.c 0 y.c)):Blk w g 23 y.c:=by
 have e:splice x.c 0 y.c=y.c:=by simp[splice,D32.cl]
 rwa [e] at h
theorem rd_own{w:World}{g t:Nat}{x:D32}(h:Blk w g t x.c):Rd w (aS g) (bvs x.l):=Rd.of_blk0 (es:=[]) (by rw[List.append_nil];exact h)
theorem all0(x:D32):(x.c.drop 0).take 32=x.c:=by rw[List.drop_zero,List.take_of_length_le (by rw[D32.cl];omega)]
def kz:D32:=⟨List.replicate 32 0,by simp⟩
def ky:D32:=⟨128::List.replicate 31 0,by simp⟩
theorem put1(h:StP D w gs g ⟨[],[],600,0⟩ vs vf)(A:Option Addr)(hr:Rd w A (bvs [97])):∀ u,Bw w u→Calls prog 90 #[pG gs,iV 0,kz.a,.slice A 1 1] u (Puts D u gs g 1 fun x=>σA kz [97] x 600):=fun u hu =>
 (xun (h.below hu) kz A 1 1 [97] (hr.below hu) ⟨rfl,by omega,by unfold maxLen;omega,by omega⟩ (show 0+258≤600 by omega)).mono (by
  rintro e w' ⟨D',vs',vf',x,rfl,h1,h2⟩;exact⟨D',vs',vf',x,rfl,h1,h2⟩)
theorem xvb(x:Sv)(h:StP D w gs g (σA kz [97] x 600) vs vf):∀ u,Bw w u→Calls prog 90 #[pG gs,iV 1,ky.a,.slice none 0 0] u (Puts D u gs g 3 fun y=>σD kz [97] x ky [] y 600):=fun u hu =>
 (xqy kz [97] x 600 (h.below hu) ky none 0 0 [] (Rd.nil _ _) ⟨rfl,by omega,by unfold maxLen;omega,by omega⟩ (by omega) (by decide +kernel) (by decide +kernel) (by decide +kernel)).mono (by
  rintro e w' ⟨D',vs',vf',x,rfl,h1,h2⟩;exact⟨D',vs',vf',x,rfl,h1,h2⟩)
theorem DcP.fr{T:Nat→Prop}(h:DcP D w gd gs g σ vs vf nm root)(hf:Fr T w w')(hT:∀ k,D k∨k=gd→¬ T k):DcP D w' gd gs g σ vs vf nm root:=⟨h.blk.fr hf (hT gd (.inr rfl)),h.st.fr hf (fun k hk=>hT k (.inl hk)),h.far⟩
structure Al (w0 w:World)(D:Nat→Prop)(gd gs g:Nat)(σ:Sb)(vs vf:Sv)(nm:Value)(root:Int)(ga gb:Nat):Prop where
 dc:DcP D w gd gs g σ vs vf nm root
 ka:Blk w ga 5 (bvs kz.l)
 kb:Blk w gb 5 (bvs ky.l)
 lo:Bw w0 w
 hi:∀ k,D k∨k=gd→w0.heap.size≤k
 na : ¬ (D ga∨ga=gd)
 nb : ¬ (D gb∨gb=gd)
theorem Al.below{w0:World}{ga gb:Nat}(h:Al w0 w D gd gs g σ vs vf nm root ga gb)(hb:Bw w w'):Al w0 w' D gd gs g σ vs vf nm root ga gb :=
 ⟨h.dc.below hb,h.ka.below hb h.ka.lt,h.kb.below hb h.kb.lt,h.lo.trans (hb.mono h.lo.size),h.hi,h.na,h.nb⟩
theorem Al.puts{w0:World}{ga gb:Nat}{D':Nat→Prop}{σ':Sb}{vs' vf':Sv}{root':Int}(h:Al w0 w D gd gs g σ vs vf nm root ga gb)(hp:DcP D' w' gd gs g σ' vs' vf' nm root')(hs:Stp (fun k=>D k∨k=gd) w (fun k=>D' k∨k=gd) w'):Al w0 w' D' gd gs g σ' vs' vf' nm root' ga gb :=
 ⟨hp,h.ka.fr hs.fr h.na,h.kb.fr hs.fr h.nb,h.lo.trans ⟨hs.fr.os,hs.fr.tape,hs.fr.output,hs.fr.size,fun k hk=>hs.fr.block k (Nat.lt_of_lt_of_le hk h.lo.size) (fun e=>by have:=h.hi k e;omega)⟩,
  fun k hk=>(by rcases hs.new k hk with h1 | h1;exact h.hi k h1;exact Nat.le_trans h.lo.size h1),fun hk=>(by rcases hs.new _ hk with h1 | h1;exact h.na h1;have:=h.ka.lt;omega),fun hk=>(by rcases hs.new _ hk with h1 | h1;exact h.nb h1;have:=h.kb.lt;omega)⟩
theorem Al.ra{w0:World}{ga gb:Nat}(h:Al w0 w D gd gs g σ vs vf nm root ga gb):Rd w (aS ga) (bvs kz.l):=Rd.of_blk0 (es:=[]) (by simpa using h.ka)
theorem Al.rb{w0:World}{ga gb:Nat}(h:Al w0 w D gd gs g σ vs vf nm root ga gb):Rd w (aS gb) (bvs ky.l):=Rd.of_blk0 (es:=[]) (by simpa using h.kb)
theorem got3{x y:Sv}:Got (σD kz [97] x ky [] y 600) 3 (twoNd kz [97] ky []) [] true:=.inl ⟨rfl,2,rfl,by show 2<3;omega,rfl,rfl,(show(1:Int)≠0 by decide)⟩
theorem got31{x y:Sv}:Got (σD kz [97] x ky [] y 600) 1 (xkw kz [97] x 0) [97] true:=.inl ⟨rfl,0,rfl,by show 0<3;omega,rfl,rfl,(show(1:Int)≠0 by decide)⟩
theorem root3{x y:Sv}:∀ u,StW D u gs (σD kz [97] x ky [] y 600)→Calls prog 154 #[pG gs,iV 3] u (oB u (iV 0)):=fun u hu=>xjt hu 3 _ _ got3 (.inr ⟨rfl,rfl⟩)
theorem way3{x y:Sv}:Way (σD kz [97] x ky [] y 600) kz 3 [3] 1:=by
 refine .step 3 _ _ 0 [] 1 got3 rfl (by omega) rfl ?_
 have e:sdO kz 0 (twoNd kz [97] ky [])=1:=by
  unfold sdO;rw[show tb kz.l 0=false by decide +kernel];rfl
 rw[e];exact .stop 1 _ _ true got31 (by show 1≠2;decide)
theorem find3{x y:Sv}:∀ u,StW D u gs (σD kz [97] x ky [] y 600)→Calls prog 93 #[pG gs,iV 3,kz.a] u fun e w'=>∃ v,e=.returned (.tuple #[v,.bool true,iV 0])∧OwnB w' u.heap.size 5 v [97]∧Bw u w':=fun u hu =>
 find_yes hu 3 kz [3] 1 way3 (by decide) root3 _ _ true got31 rfl rfl (by decide)
theorem xvc{P:Program}{w:World}{a:Act}{o:Oper}{T T':TypeId}{b:Bool}(hT:P.underlying T=some .string)(x y:Operand)(ho:o.op=.binOp .neq T x y T')(l k:LU)(hx:a.eval x=.string ⟨l.toArray⟩)(hy:a.eval y=.string ⟨k.toArray⟩)(h:(l==k) = !b) :
  (execOp a.eval o).run P w=.ok (.value (.bool b)) w:=by
 unfold execOp;simp only[ho,hx,hy];go_simp
theorem xvd{P:Program}{w:World}{a:Act}{o:Oper}{T T':TypeId}{b:Bool}(hT:P.underlying T=some .string)(x y:Operand)(ho:o.op=.binOp .eql T x y T')(l k:LU)(hx:a.eval x=.string ⟨l.toArray⟩)(hy:a.eval y=.string ⟨k.toArray⟩)(h:(l==k)=b) :
  (execOp a.eval o).run P w=.ok (.value (.bool b)) w:=by
 unfold execOp;simp only[ho,hx,hy];go_simp
theorem alive_ok(w:World):Calls prog 6 #[] w (oB w (.bool true)):=by
 obtain⟨w0,rfl,HL⟩:=lS w;have HEX:=hZ hexE;have DN:∀ u,Calls prog 36 #[iV 600] u fun e w'=>∃ gd gs g D nm,e=.returned (.tuple #[pG gd,iV 0])∧DcP D w' gd gs g ⟨[],[],600,0⟩ Sv.nil Sv.nil nm 0∧(∀ k,D k→u.heap.size≤k)∧u.heap.size≤gd∧Bw u w':=fun u=>dict_new 600 (by omega) (by omega)
 go_enter func6,ntmps6;go_upto_region 0 with fail;refine X1j ?_;go_upto_region 1 with fail;refine Xt ?_;refine X1u ?_;intro K hK;refine xad cf36 rfl _ rfl ?_;refine X1w ?_;(with_reducible refine(DN _).mono ?_);rintro e w ⟨gd,gs,g,D,nm,rfl,hdc,hDn,hgdn,hb⟩;have hB1:=hb;clear hb HL;have HL:=Loc.start w;obtain⟨w1,rfl⟩:=eW w;refine X7l ?_;clear hK K;go_upto_region 2 with fail;refine X1o ?_;refine X29 ?_;go_upto_region 4 with fail
 go_cut [3,4] from 27 to 28 (fun x y wx=>∃ ga gb,x=.slice (aS ga) 32 32∧y=.slice (aS gb) 32 32∧Blk wx ga 5 (bvs (List.replicate 32 0))∧Blk wx gb 5 (bvs (List.replicate 32 0))∧ga≠gb∧w1.heap.size≤ga∧w1.heap.size≤gb∧Bw w1 wx)
 case first =>
  refine rB (Loc.P HL) [] [0,1] [] 4 ?_;simp only[pick,ql];replace HL:=HL.drew;refine xcz [0,1] (by kernel_rfl) ?_;refine X4 ?_;refine⟨⟨rfl,?_⟩,⟨rfl,?_⟩,trivial⟩
  ·intro K hK
   refine Xi8 ?_;replace HL:=HL.next ((Below.refl _ _).alloc (Nat.le_refl _) (.cells (bvs (List.replicate 32 0)).toArray 5));refine X3x ?_;clear hK K;refine xbk [2,1,3] 0 (by kernel_rfl) ?_;refine X4 ?_;refine X4o ?_;refine Xg ?_;intro K hK;refine Xi8 ?_;replace HL:=HL.next ((Below.refl _ _).alloc (Nat.le_refl _) (.cells (bvs (List.replicate 32 0)).toArray 5));refine Xcx ?_;clear hK K;have h2:=xtd w1.drew (bvs (List.replicate 32 0));refine Xi9 ?_;intro hbw;have h3:w1.heap.size≤w1.drew.heap.size:=Nat.le_refl _;obtain⟨h21,h22,h23,h24,_⟩:=h2;clear HL;generalize (w1.drew.alloc (.cells (bvs (List.replicate 32 0)).toArray 5)).alloc (.cells (bvs (List.replicate 32 0)).toArray 5)=wz at *;generalize (w1.drew.alloc (.cells (bvs (List.replicate 32 0)).toArray 5)).heap.size=gy at *;generalize w1.drew.heap.size=gz at *
   have h5:=Nat.le_trans h3 h24;go_wp2_with fail;go_meet
   case rel=>exact⟨_,_,rfl,rfl,by first | exact h21 | exact h22,by first | exact h22 | exact h21,by first | exact h23 | exact h23.symm,by first | exact h3 | exact h5,by first | exact h5 | exact h3,hbw⟩
  ·intro K hK
   refine Xi8 ?_;replace HL:=HL.next ((Below.refl _ _).alloc (Nat.le_refl _) (.cells (bvs (List.replicate 32 0)).toArray 5));refine X3x ?_;clear hK K;refine xbk [0,2,3] 0 (by kernel_rfl) ?_;refine Xbl ?_;intro K hK;refine Xi8 ?_;replace HL:=HL.next ((Below.refl _ _).alloc (Nat.le_refl _) (.cells (bvs (List.replicate 32 0)).toArray 5));refine X3x ?_;clear hK K;refine X4q ?_;have h2:=xtd w1.drew (bvs (List.replicate 32 0));refine Xi9 ?_;intro hbw;have h3:w1.heap.size≤w1.drew.heap.size:=Nat.le_refl _;obtain⟨h21,h22,h23,h24,_⟩:=h2;clear HL;generalize (w1.drew.alloc (.cells (bvs (List.replicate 32 0)).toArray 5)).alloc (.cells (bvs (List.replicate 32 0)).toArray 5)=wz at *;generalize (w1.drew.alloc (.cells (bvs (List.replicate 32 0)).toArray 5)).heap.size=gy at *;generalize w1.drew.heap.size=gz at *;have h5:=Nat.le_trans h3 h24
   go_wp2_with fail;go_meet
   case rel=>exact⟨_,_,rfl,rfl,by first | exact h21 | exact h22,by first | exact h22 | exact h21,by first | exact h23 | exact h23.symm,by first | exact h3 | exact h5,by first | exact h5 | exact h3,hbw⟩
 case rest =>
  obtain⟨ga,gb,rfl,rfl,hka,hkb,hab,hga,hgb,hBc⟩:=hcut;have hdc2:=hdc.below hBc;have hBa:=hB1.trans (hBc.mono hB1.size)
  have hDga:∀ k,D k∨k=gd→k<w1.heap.size:=fun k hk=>by
   rcases hk with hk | rfl
   ·exact hdc.st.sb.lt k hk
   ·exact hdc.blk.lt
  have hDn2:∀ k,D k∨k=gd→w0.heap.size≤k:=fun k hk=>by
   rcases hk with hk | rfl
   ·exact hDn k hk
   ·exact hgdn
  clear hdc HL;have HL:=(Loc.start wc).adopt (fun k=>k=gb) [(gb,5,bvs (List.replicate 32 0))] (by simp;exact hkb) (by simp);simp only[qn] at HL;obtain⟨w,rfl⟩:=eW wc;obtain⟨w2,rfl⟩:=eW w;go_upto_region 5 with fail;refine X12 ?_;refine xaa rfl _ (xap sl25 _ _ rfl gb 32 32 0 .i64 rfl rfl (by omega)) ?_;refine X6 ?_;refine xa3 sc5 rfl _ _ rfl HL 0 gb 0 5 _ (bvs ky.l) _ rfl rfl rfl rfl (by simp[bvs]) (show _=bvs ky.l from rfl) ?_;refine X2t ?_;clear HL;intro w HL;have hf2:=HL.frS;have hdc3:=hdc2.fr hf2 (fun k hk e=>by have:=hDga k hk;omega);have hka3:Blk w ga 5 (bvs kz.l):=hka.fr hf2 (fun e=>hab e);have hkb3:Blk w gb 5 (bvs ky.l):=HL.blk (.head _);have hBb:Bw w0 w:=hBa.trans ⟨hf2.os,hf2.tape,hf2.output,hf2.size,fun k hk=>hf2.block k (by have:=hBa.size;omega) (by have:=hB1.size;omega)⟩
  have hgaD : ¬ (D ga∨ga=gd):=fun hk=>by have:=hDga ga hk;omega
  have hgbD : ¬ (D gb∨gb=gd):=fun hk=>by have:=hDga gb hk;omega
  have HA:Al w0 w D gd gs g _ _ _ nm 0 ga gb:=⟨hdc3,hka3,hkb3,hBb,hDn2,hgaD,hgbD⟩;clear HL hf2 hka hkb hdc2 hdc3 hka3 hkb3 hBb hDn2 hgaD hgbD hDga hab hga hgb hBc hBa hDn hgdn hB1;have HL:=Loc.start w;obtain⟨w3,rfl⟩:=eW w;go_upto_region 6 with fail;refine X19 ?_;refine wpList_plain rfl fun K hK=>xg7 sl25 el5 _ rfl (.int .u8 97) rfl rfl (hK _ _ ?_)
  clear hK K;refine X6 ?_;refine Xu ?_;refine wpList_plain rfl fun K hK=>xk8 25 5 [Value.int .u8 97].toArray 1 1 underlying25 underlying5 _ rfl rfl (hK _ _ ?_)
  clear hK K;refine X6 ?_;have hrl:Rd (w3.alloc (.cells [Value.int .u8 97].toArray 5 (1,2))) (some ⟨w3.heap.size,0,none⟩) (bvs [97]):=xmn w3 [97] 1 2 _ rfl;replace HL:=HL.next ((Below.refl _ _).alloc (Nat.le_refl _) (.cells [Value.int .u8 97].toArray 5 (1,2)));generalize w3.heap.size=gl at *;generalize hwl:w3.alloc (.cells [Value.int .u8 97].toArray 5 (1,2))=wl at *;obtain⟨w,rfl⟩:∃ w,w=wl:=⟨_,rfl⟩;refine Xu ?_;refine X1u ?_;intro K hK;refine Xhz ?_;(with_reducible refine(dc_put (HA.below HL.below).dc _ 32 kz (HA.below HL.below).ra (by omega) _ 1 1 1 _ (put1 (HA.below HL.below).dc.st _ hrl)).mono ?_);rintro e w ⟨D1,vs1,vf1,x1,rfl,hdc4,hst⟩;have HA4:=(HA.below HL.below).puts hdc4 hst;clear HA HL hdc4 hst;have HL:=Loc.start w;obtain⟨w4,rfl⟩:=eW w;refine X5k ?_;clear hK K;refine X1n ?_;refine X1m ?_;refine X5i ?_;intro K hK
  refine Xhz ?_;(with_reducible refine(dc_put HA4.dc _ 32 ky HA4.rb (by omega) _ 0 0 3 _ (xvb x1 HA4.dc.st)).mono ?_);rintro e w ⟨D2,vs2,vf2,x2,rfl,hdc5,hst⟩;have HA5:=HA4.puts hdc5 hst;clear HA4 HL hdc5 hst;have HL:=Loc.start w;obtain⟨w5,rfl⟩:=eW w;refine X5k ?_;clear hK K;refine X29 ?_;go_upto_region 8 with fail;refine X2j ?_;intro K hK;refine xad cf37 rfl _ rfl ?_;refine X1w ?_;(with_reducible refine(dc_get HA5.dc _ 32 kz HA5.ra (by omega) [97] find3).mono ?_);rintro e w ⟨v,rfl,hov,hb⟩;obtain⟨vA,vc,rfl,hv1,hv2,hv3⟩:=hov.rd;have HA:=HA5.below hb;clear HA5 HL hb hov;have HL:=Loc.start w;obtain⟨w6,rfl⟩:=eW w;refine X8d ?_;clear hK K;refine X7s ?_;go_upto_region 9 with fail;refine X1v ?_;intro K hK;refine xad cf29 rfl _ rfl ?_;refine X1w ?_
  (with_reducible refine(dc_root (HA.below HL.below).dc _ _ got3).mono ?_);refine X4a ?_;clear hK K;intro w HL;refine X5o ?_;clear HL;intro g8 w HL;refine Xia ?_;clear HL;intro w HL;go_upto_region 10 with fail;refine X1v ?_;intro K hK;refine xad cf38 rfl _ rfl ?_;refine X1w ?_;(with_reducible refine(dc_len (HA.below HL.below).dc _ _ true got3 root3).mono ?_);refine X4a ?_;clear hK K;intro w HL;refine X1f ?_;go_upto_region 11 with fail;refine X1o ?_;refine X1s ?_;refine X1n ?_;refine X1s ?_;refine X1n ?_;refine X1s ?_;refine X1n ?_;refine xac rfl _ (xbz bt _ rfl vA 1 vc rfl [97] (hv3.below HL.below) rfl) ?_;refine X6 ?_;refine xac rfl _ (xvc (b:=false) underlying9 _ _ rfl [97] [97] rfl rfl (by decide)) ?_;refine X81 ?_;refine xac rfl _ (xa9 (b:=false) _ _ rfl 2 2 rfl rfl rfl) ?_
  refine X81 ?_;refine X5i ?_;intro K hK;refine xad cf39 rfl _ rfl ?_;refine X1w ?_;(with_reducible refine(xpt (HA.below HL.below).dc).mono ?_);rintro e w ⟨rfl,rfl⟩;refine X5k ?_;clear hK K;refine xac rfl _ (xa9 (b:=false) _ _ rfl 3 3 rfl rfl rfl) ?_;refine X28 ?_;go_upto_region 13 with fail;refine X1v ?_;intro K hK;refine Xf0 ?_;refine X1w ?_;(with_reducible refine(of_d _ _ 32 32 ky (HA.below HL.below).rb rfl (by omega)).mono ?_);refine X4a ?_;clear hK K;intro w HL;refine xah zr24 rfl rfl HL ?_;clear HL;intro g12 w HL;refine Xfb ?_;clear HL;intro w HL;obtain⟨w7,rfl⟩:=eW w;go_upto_region 14 with fail;refine Xib ?_;refine X6 ?_;refine wpList_plain rfl fun K hK=>xg7 sl25 el5 _ rfl (.int .u8 97) rfl rfl (hK _ _ ?_)
  clear hK K;refine X6 ?_;refine Xu ?_;refine wpList_plain rfl fun K hK=>xk8 25 5 [Value.int .u8 97].toArray 1 1 underlying25 underlying5 _ rfl rfl (hK _ _ ?_)
  clear hK K;refine X6 ?_;have hrm:Rd (w7.alloc (.cells [Value.int .u8 97].toArray 5 (1,2))) (some ⟨w7.heap.size,0,none⟩) (bvs [97]):=xmn w7 [97] 1 2 _ rfl;replace HL:=HL.next ((Below.refl _ _).alloc (Nat.le_refl _) (.cells [Value.int .u8 97].toArray 5 (1,2)));generalize w7.heap.size=gm at *;generalize hwm:w7.alloc (.cells [Value.int .u8 97].toArray 5 (1,2))=wm at *;obtain⟨w,rfl⟩:∃ w,w=wm:=⟨_,rfl⟩;refine Xu ?_;refine X1u ?_;intro K hK;refine X5n ?_;(with_reducible refine(xjn _ _ 1 1 [97] hrm rfl (by omega) (by unfold maxLen;omega) (by omega)).mono ?_);refine X45 ?_;clear hK K;intro w HL;refine X50 ?_;intro K hK;refine X5t ?_;refine X1w ?_;(with_reducible refine(xig _ D32.z (tagV [97])).mono ?_);refine X4y ?_;clear hK K;intro w HL;refine xah zr23 rfl rfl HL ?_;clear HL;intro g14 w HL;refine X5p ?_
  refine X34 ?_;clear HL;intro w HL;clear hrm;obtain⟨w8,rfl⟩:=eW w;go_upto_region 15 with fail
  go_cut [15] from 98 to 100 (fun x wx=>∃ gx,x=.pointer (some ⟨gx,0,none⟩)∧Blk wx gx 23 (tagL ky (tagV [])).c∧w8.heap.size≤gx∧Bw w8 wx)
  case first =>
   have hBB:Below w8.heap.size w8 w8.drew:=(Below.refl _ _).drew;refine rB (Loc.P HL) [4] [1,2,3,4] [0] 4 ?_;refine X3a ?_;intro HL;refine X5r ?_;refine X6 ?_;refine xcz [1,3] (by kernel_rfl) ?_;refine X4 ?_;refine⟨⟨rfl,?_⟩,⟨rfl,?_⟩,trivial⟩
   ·intro K hK
    refine X5n ?_;refine Xic ?_;refine X43 ?_;intro w hb HL;replace hBB:=hBB.trans (hb.mono hBB.size);(try replace hbx:=hbx.below hb hbx.lt);clear hb;refine X5v ?_;clear hK K;refine xcz [2,3] (by kernel_rfl) ?_;refine X4 ?_;refine⟨⟨rfl,?_⟩,⟨rfl,?_⟩,trivial⟩
    ·intro K hK
     refine X5t ?_;refine Xid ?_;refine X43 ?_;intro w hb HL;replace hBB:=hBB.trans (hb.mono hBB.size);(try replace hbx:=hbx.below hb hbx.lt);clear hb;refine X5v ?_;clear hK K;refine xbk [3,4] 0 (by kernel_rfl) ?_;refine Xbl ?_;intro K hK;refine xix zr23 rfl ?_;have hbx:=xrm hBB D32.z.c;replace HL:=HL.next ((Below.refl _ _).alloc (Nat.le_refl _) (.cells D32.z.c.toArray 23));have hlx:=hBB.size;replace hBB:=hBB.trans (((Below.refl _ _).alloc (Nat.le_refl _) (.cells D32.z.c.toArray 23)).mono hBB.size);refine X3y ?_;clear hK K;intro K hK;refine xbe ag23.i _ _ rfl _ 0 23 _ _ rfl rfl hbx (D32.cl _) (by rw[D32.cl];decide) (D32.c1 _) ?_;intro w' hb' hg' _;refine Xhb ?_;clear hK K;have hb2:=xg8 hb';have hBw:=hBB.grown hg' hBB.size (by intro k hk;cases hk;exact hlx);go_wp2_with fail;go_meet
     case rel=>exact⟨_,rfl,hb2,hlx,hBw⟩
    ·intro K hK
     refine xix zr23 rfl ?_;have hbx:=xrm hBB D32.z.c;replace HL:=HL.next ((Below.refl _ _).alloc (Nat.le_refl _) (.cells D32.z.c.toArray 23));have hlx:=hBB.size;replace hBB:=hBB.trans (((Below.refl _ _).alloc (Nat.le_refl _) (.cells D32.z.c.toArray 23)).mono hBB.size);refine X3x ?_;clear hK K;refine xbk [2,4] 0 (by kernel_rfl) ?_;refine Xbl ?_;intro K hK;refine X5t ?_;refine Xid ?_;refine X43 ?_;intro w hb HL;replace hBB:=hBB.trans (hb.mono hBB.size);(try replace hbx:=hbx.below hb hbx.lt);clear hb;refine X79 ?_;clear hK K;intro K hK;refine xbe ag23.i _ _ rfl _ 0 23 _ _ rfl rfl hbx (D32.cl _) (by rw[D32.cl];decide) (D32.c1 _) ?_;intro w' hb' hg' _;refine Xhb ?_;clear hK K;have hb2:=xg8 hb';have hBw:=hBB.grown hg' hBB.size (by intro k hk;cases hk;exact hlx);go_wp2_with fail;go_meet
     case rel=>exact⟨_,rfl,hb2,hlx,hBw⟩
   ·intro K hK
    refine xix zr23 rfl ?_;have hbx:=xrm hBB D32.z.c;replace HL:=HL.next ((Below.refl _ _).alloc (Nat.le_refl _) (.cells D32.z.c.toArray 23));have hlx:=hBB.size;replace hBB:=hBB.trans (((Below.refl _ _).alloc (Nat.le_refl _) (.cells D32.z.c.toArray 23)).mono hBB.size);refine X3x ?_;clear hK K;refine xbk [1,2,4] 0 (by kernel_rfl) ?_;refine Xbl ?_;intro K hK;refine X5n ?_;refine Xic ?_;refine X43 ?_;intro w hb HL;replace hBB:=hBB.trans (hb.mono hBB.size);(try replace hbx:=hbx.below hb hbx.lt);clear hb;refine X79 ?_;clear hK K;intro K hK;refine X5t ?_;refine Xid ?_;refine X43 ?_;intro w hb HL;replace hBB:=hBB.trans (hb.mono hBB.size);(try replace hbx:=hbx.below hb hbx.lt);clear hb;refine X79 ?_;clear hK K;intro K hK;refine xbe ag23.i _ _ rfl _ 0 23 _ _ rfl rfl hbx (D32.cl _) (by rw[D32.cl];decide) (D32.c1 _) ?_
    intro w' hb' hg' _;refine Xhb ?_;clear hK K;have hb2:=xg8 hb';have hBw:=hBB.grown hg' hBB.size (by intro k hk;cases hk;exact hlx);go_wp2_with fail;go_meet
    case rel=>exact⟨_,rfl,hb2,hlx,hBw⟩
  case rest =>
   obtain⟨gx,rfl,hkx,hlx,hBx⟩:=hcut;replace HL:=HL.next hBx;have hk8:Blk wc g8 23 (tagI (tagL kz (tagV [97])) (tagL ky (tagV []))).c:=HL.blk (.tail _ (.tail _ (.head _)));have hk14:Blk wc g14 23 (tagL D32.z (tagV [97])).c:=HL.blk (.head _);have hlow:=(HA.below HL.below).lo;clear HL HA hlx hBx;have HL:=Loc.start wc;obtain⟨w,rfl⟩:=eW wc;obtain⟨w9,rfl⟩:=eW w;go_upto_region 16 with fail;refine Xt ?_;refine X1u ?_;intro K hK;refine X4w ?_;refine X4x ?_;refine X4y ?_;clear hK K;intro w HL;refine xah zr23 rfl rfl HL ?_;clear HL;intro g16 w HL;refine X5p ?_;refine X34 ?_;clear HL;intro w HL;have o8:Old w9 g8:=hk8.lt;have o14:Old w9 g14:=hk14.lt;have ox:Old w9 gx:=hkx.lt;have hkz:kz=D32.z:=rfl;go_upto_region 17 with fail;refine rB (Loc.P HL) [] [6,11] [0,1,2,3,4,5,6,7,8,9,10,11,12,13,14] 0 ?_
   refine X3c ?_;intro HL;refine X3i ?_;refine X3g ?_;refine xab rfl rfl HL (fun W hW=>xc9 ag23 hW _ rfl _ _ rfl _ _ _ o8 hk8 (all0 _) (D32.cl _)) ?_;refine X6 ?_;refine xab rfl rfl HL (fun W hW=>xc9 ag23 hW _ rfl _ _ rfl _ _ _ o14 hk14 (all0 _) (D32.cl _)) ?_;refine X6 ?_;refine xab rfl rfl HL (fun W hW=>xc9 ag23 hW _ rfl _ _ rfl _ _ _ ox hkx (all0 _) (D32.cl _)) ?_;refine Xh ?_;intro K hK;refine X7b ?_;(with_reducible refine(xgp _ (tagL D32.z (tagV [97])) (tagL ky (tagV []))).mono ?_);refine X7q ?_;clear hK K;intro w HL;refine xab rfl rfl HL (fun W hW=>xd1 ab25 _ _ rfl (tagI (tagL kz (tagV [97])) (tagL ky (tagV []))) (tagI (tagL D32.z (tagV [97])) (tagL ky (tagV []))) rfl rfl true (by rw[hkz];exact beq_self_eq_true _)) ?_;refine X3j ?_;refine X3g ?_
   refine xab rfl rfl HL (fun W hW=>xeq ia25 _ rfl g16 0 rfl) ?_;refine Xh ?_;intro K hK;refine xad cf45 rfl _ rfl ?_;refine X1w ?_;(with_reducible refine(hex_any (aS g16) 32 32 tagE.l _ (rd_own (HL.blk (List.Mem.head _))) tagE.h (by omega)).mono ?_);refine X7q ?_;clear hK K;intro w HL;refine xab rfl rfl HL (fun W hW=>xvd underlying9 _ _ rfl (hexL tagE.l) hexD rfl rfl HEX.out) ?_;refine X93 ?_;refine X4p ?_;go_wp2_with fail;go_ret;exact⟨rfl,hlow.trans (HL.below.mono hlow.size)⟩
end
end Go.Proofs.YtkjjdgnkelchfaaGreat
