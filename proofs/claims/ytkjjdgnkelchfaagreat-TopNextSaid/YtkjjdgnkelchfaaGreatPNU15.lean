import Derived.Test.YtkjjdgnkelchfaaGreatPNU14
set_option linter.unusedSimpArgs false
set_option linter.unusedVariables false
set_option maxRecDepth 100000
set_option maxHeartbeats 16000000
namespace Go.Proofs.YtkjjdgnkelchfaaGreat
open Go Go.RowKit Go.Proofs.Tryz
theorem xpr(M:Nat)(IH:xny M)(d:Nat)(hd:d+(M+1)=256)(D:Nat→Prop)(w:World)(gs g:Nat)(σ:Sb)(vs vf:Sv)(R:List Int)(zo:Int)(l r:Tre)(A:Option Addr)(n c:Nat)(es:List WE)
  (h:StP D w gs g σ vs vf) (hI:σ.Inv R []) (ht:IsT σ zo d (Tre.inner l r)) (hlv:zo=0∨σ.Live R zo) (hok:(Tre.inner l r).Ok d) (hW:WriT D w A n c (es.map Prod.fst) (es.map Prod.snd)) (hR:xf5 es) (hal:Alike d ((Tre.inner l r).keys++xbc es)) (hv:∀ e∈es,e.1.gone=false→e.2.length≤1024) (hRl:R.length+(M+1)≤500000000) (hn:n≤11) (hts:(Tre.inner l r).size≤500000) (hroom:σ.used+(M+1+1)*n≤σ.room) (hn1:1≤n):Calls prog 186 #[pG gs,iV zo,iV d,.slice A n c] w (xit D w gs g σ R d (.inner l r) es ((M+1+1)*n)):=by
 have hel:es.length=n:=by have:=hW.s.len;simpa using this
 have kn:((n:Int)==0)=false:=nB (by omega);obtain⟨hd256,okl,okr,hlb,hrb,hshr,_,_⟩:=hok;obtain⟨i,hi,hzi,hci,hki,hdp,hdg,hsz,hky,hTl,hTr⟩:=ht;have ht:IsT σ zo d (.inner l r):=⟨i,hi,hzi,hci,hki,hdp,hdg,hsz,hky,hTl,hTr⟩;have hok:(Tre.inner l r).Ok d:=⟨hd256,okl,okr,hlb,hrb,hshr,‹_›,‹_›⟩;have hlvz:σ.Live R zo:=hlv.resolve_left (by omega);obtain⟨m,hm⟩:∃ m,xbv d (es.map Prod.fst)=m:=⟨_,rfl⟩
 have hmn:m≤n:=by
  have h1:=xkx d (es.map Prod.fst);rw[hm,List.length_map,hel] at h1;exact h1
 have hzb:=xuu hd256 hR (hal.sub fun k hk=>List.mem_append.2 (.inr hk));rw[hm] at hzb;have hsub1:∀ e∈es.take m,e∈es:=fun e he=>(List.take_sublist _ _).subset he
 have hsub2:∀ e∈es.drop m,e∈es:=fun e he=>(List.drop_sublist _ _).subset he
 have hkk:∀ k∈l.keys++xbc (es.take m),k∈(Tre.inner l r).keys++xbc es:=fun k hk=>by
  show k∈(l.keys++r.keys)++_;rcases List.mem_append.1 hk with h1 | h1
  ·simp[h1]
  ·obtain⟨e,he,rfl⟩:=List.mem_map.1 h1
   exact List.mem_append.2 (.inr (List.mem_map.2 ⟨e,hsub1 e he,rfl⟩))
 have hkk2:∀ k∈r.keys++xbc (es.drop m),k∈(Tre.inner l r).keys++xbc es:=fun k hk=>by
  show k∈(l.keys++r.keys)++_;rcases List.mem_append.1 hk with h1 | h1
  ·simp[h1]
  ·obtain⟨e,he,rfl⟩:=List.mem_map.1 h1
   exact List.mem_append.2 (.inr (List.mem_map.2 ⟨e,hsub2 e he,rfl⟩))
 have HAL1:Hid (Alike (d+1) (l.keys++xbc (es.take m))):=hZ ((hal.sub hkk).next (b:=false) fun k hk=>(List.mem_append.1 hk).elim (hlb k) (hzb.1 k));have HAL2:Hid (Alike (d+1) (r.keys++xbc (es.drop m))):=hZ ((hal.sub hkk2).next (b:=true) fun k hk=>(List.mem_append.1 hk).elim (hrb k) (hzb.2 k));have HR1:Hid (xf5 (es.take m)):=hZ (List.Pairwise.sublist (List.take_sublist _ _) hR);have HR2:Hid (xf5 (es.drop m)):=hZ (List.Pairwise.sublist (List.drop_sublist _ _) hR);have HV1:Hid (∀ e∈es.take m,e.1.gone=false→e.2.length≤1024):=hZ (fun e he=>hv e (hsub1 e he));have HV2:Hid (∀ e∈es.drop m,e.1.gone=false→e.2.length≤1024):=hZ (fun e he=>hv e (hsub2 e he));have HES:Hid (es.take m++es.drop m=es):=hZ (List.take_append_drop m es);have HM:=hZ hm;have HZB:=hZ hzb;have HLB:=hZ hlb;have HRB:=hZ hrb
 have HOKL:=hZ okl;have HOKR:=hZ okr;have HOK:=hZ hok;have hal2:=hal;rw[← List.take_append_drop m es] at hal2;have HAL:=hZ hal2;have HSZ:Hid (l.size+r.size≤500000∧(es.take m).length+(es.drop m).length≤11):=hZ ⟨hts,by rw[← List.length_append,List.take_append_drop,hel];exact hn⟩
 have hll:σ.slots[i].nd.left=0∨σ.Live R σ.slots[i].nd.left:=by
  by_cases h0:σ.slots[i].nd.left=0
  ·exact .inl h0
  ·exact .inr (.left i hi (by rw[← hzi];exact hlvz) h0)
 have hlr:σ.slots[i].nd.right=0∨σ.Live R σ.slots[i].nd.right:=by
  by_cases h0:σ.slots[i].nd.right=0
  ·exact .inl h0
  ·exact .inr (.right i hi (by rw[← hzi];exact hlvz) h0)
 have G0:Hid (Got σ zo σ.slots[i].nd σ.slots[i].val true):=hZ (.inl ⟨rfl,i,hzi,hi,rfl,rfl,hci⟩);have k3:((σ.slots[i].nd.kind:Int)==2)=true:=by rw[hki];rfl
 obtain⟨nd,hnd⟩:∃ nd,σ.slots[i].nd=nd:=⟨_,rfl⟩;obtain⟨vl,hvl⟩:∃ vl,σ.slots[i].val=vl:=⟨_,rfl⟩;rw[hnd] at hTl hTr hll hlr k3 G0;rw[hvl] at G0;obtain⟨a,ha⟩:∃ a,nd.left=a:=⟨_,rfl⟩;obtain⟨b,hb⟩:∃ b,nd.right=b:=⟨_,rfl⟩;rw[ha] at hTl hll;rw[hb] at hTr hlr;have HTL:=hZ hTl;have HTR:=hZ hTr;have HLL:=hZ hll;have HLR:=hZ hlr;have HNA:=hZ ha;have HNB:=hZ hb;refine Xcz ?_;intro HH HI HT;have HLV:=hZ hlv;have HW:=hZ hW;have HRL:=hZ hRl;obtain⟨P,hP⟩:∃ P,(M+1)*m=P:=⟨_,rfl⟩;obtain⟨Q,hQ⟩:∃ Q,(M+1)*(n - m)=Q:=⟨_,rfl⟩
 have hmul:(M+1+1)*n=P+Q+n:=by
  rw[Nat.succ_mul,← hP,← hQ,← Nat.mul_add];congr 2;omega
 rw[hmul] at hroom ⊢;have HRM:Hid (σ.used+P≤σ.room∧σ.used+P+Q≤σ.room∧σ.used+P+Q<σ.room∧1≤n):=hZ (by omega);have HPP:=hZ hP;have HQQ:=hZ hQ;refine Xd0 ?_;intro HD1;have HTK1:Hid ((es.map Prod.fst).take m=(es.take m).map Prod.fst∧(es.map Prod.snd).take m=(es.take m).map Prod.snd∧(es.map Prod.fst).drop m=(es.drop m).map Prod.fst∧(es.map Prod.snd).drop m=(es.drop m).map Prod.snd):=hZ ⟨by rw[List.map_take],by rw[List.map_take],by rw[List.map_drop],by rw[List.map_drop]⟩;have hcap:=hW.s.cap;clear h hI ht hlv hok hW hR hal hal2 hv hRl hts hroom hel hzb hsub1 hsub2 hkk hkk2 hTl hTr hll hlr hP hQ hmul hm hlb hrb okl okr hshr ha hb hlvz hzi hci hki hdp hdg hsz hky hnd hvl;obtain⟨w0,rfl,HL⟩:=lS w;go_enter func186,ntmps186;go_upto_region 0 with fail;refine X1j ?_;go_upto_region 1 with fail;refine Xbv ?_;refine X6 ?_
 refine Xe5 ?_;refine X1z ?_;go_upto_region 3 with fail;refine X7x ?_;intro K hK;(with_reducible refine(xcy (HH.out.sw.below HL.below) _ nd vl true G0.out).mono ?_);refine X4y ?_;clear hK K;intro w HL;refine xaa rfl _ (xdq (b:=false) _ _ rfl _ _ rfl rfl k3) ?_;refine X1z ?_;go_upto_region 14 with fail;refine X2j ?_;intro K hK;refine xad cf227 rfl _ rfl ?_;refine X1w ?_;(with_reducible refine(xmd A n c (es.map Prod.fst) d hd256 (HW.out.s.below HL.below) (by omega)).mono ?_);refine X44 ?_;intro w HL;simp only[HM.out];refine X2m ?_;clear hK K;go_upto_region 15 with fail;refine X2j ?_;intro K hK;refine X7n ?_;(with_reducible refine(xgd (HH.out.sw.below HL.below) _ nd vl true G0.out).mono ?_);refine X44 ?_;intro w HL;rw[HNA.out,HNB.out];refine X7l ?_;clear hK K;go_upto_region 16 with fail;refine X6s ?_;refine Xd4 ?_
 refine Xd6 ?_;refine X50 ?_;intro K hK;refine xad cf186 rfl _ rfl ?_;refine X1w ?_;(with_reducible refine(IH.run (d+1) (by omega) D _ gs g σ vs vf R a l A m c (es.take m) (HH.out.below HL.below) HI.out HTL.out HLL.out HOKL.out (by have h9:=(HW.out.step (Stp.of_below HL.below)).take m hmn;rw[HTK1.out.1,HTK1.out.2.1] at h9;exact h9) HR1.out HAL1.out HV1.out (by have:=HRL.out;omega) (by omega) (by have:=HSZ.out.1;omega) (by rw[HPP.out];exact HRM.out.1)).mono ?_);rintro e w ⟨t1,z1,D1,vs1,vf1,σ1,rfl,hP1,hS1,hI1,hK1,hT1,hr1,hu1,hsp1⟩;rw[HPP.out] at hu1;have HW1:Hid (WriT D1 w (cutA A c m 34) (n - m) (c - m) ((es.drop m).map Prod.fst) ((es.drop m).map Prod.snd)):=hZ (by have h9:=(HW.out.step ((Stp.of_below HL.below).trans hS1)).drop m hmn;rw[HTK1.out.2.2.1,HTK1.out.2.2.2] at h9;exact h9);have HS1:=hZ ((Stp.of_below HL.below).trans hS1)
 have HP1:=hZ hP1;have HI1:=hZ hI1;have HK1:=hZ hK1;have HT1:=hZ hT1;have HU1:=hZ (And.intro hr1 hu1);have HSP1:=hZ hsp1;clear hP1 hS1 hI1 hK1 hT1 hr1 hu1 hsp1 HL;refine X2m ?_;clear hK K
 have HS01:Hid (∀ z∈R,z∈(if z1=0 then R else z1::R)):=hZ (fun z hz=>by
  split
  ·exact hz
  ·exact List.mem_cons_of_mem _ hz)
 have HTR1:=hZ (HTR.out.keep HK1.out HI1.out HS01.out HLR.out);have HLR1:Hid (b=0∨σ1.Live (if z1=0 then R else z1::R) b):=hZ (HLR.out.imp_right fun h=>HK1.out.live HS01.out h);have HTL1:=hZ (HTL.out.keep HK1.out HI1.out HS01.out HLL.out);have HLL1:Hid (a=0∨σ1.Live (if z1=0 then R else z1::R) a):=hZ (HLL.out.imp_right fun h=>HK1.out.live HS01.out h);go_upto_region 17 with fail;refine X6s ?_;refine Xd4 ?_;refine Xd8 ?_;refine X50 ?_;intro K hK;refine xad cf186 rfl _ rfl ?_;refine X1w ?_
 (with_reducible refine(IH.run (d+1) (by omega) D1 _ gs g σ1 vs1 vf1 (if z1=0 then R else z1::R) b r _ (n - m) (c - m) (es.drop m) HP1.out HI1.out HTR1.out HLR1.out HOKR.out HW1.out HR2.out HAL2.out HV2.out (by have:=HRL.out;have:=xf1 R z1;omega) (by omega) (by have:=HSZ.out.1;omega) (by rw[HQQ.out];have q1:=HU1.out;have q2:=HRM.out;omega)).mono ?_);rintro e w ⟨t2,z2,D2,vs2,vf2,σ2,rfl,hP2,hS2,hI2,hK2,hT2,hr2,hu2,hsp2⟩;rw[HQQ.out] at hu2;have HS2:=hZ (HS1.out.trans hS2);have HP2:=hZ hP2;have HI2:=hZ hI2;have HT2:=hZ hT2;have HU2:=hZ (And.intro hr2 hu2);have HSP2:=hZ hsp2
 have HS12:Hid (∀ z∈(if z1=0 then R else z1::R),z∈(if z2=0 then (if z1=0 then R else z1::R) else z2::(if z1=0 then R else z1::R))):=hZ (fun z hz=>by
  split
  ·exact hz
  ·exact List.mem_cons_of_mem _ hz)
 have HT12:Hid (IsT σ2 z1 (d+1) t1):=hZ (HT1.out.keep hK2 hI2 HS12.out (by
  by_cases h0:z1=0
  ·exact .inl h0
  ·exact .inr (.root _ (by rw[if_neg h0];simp))))
 have HTR2:Hid (IsT σ2 b (d+1) r):=hZ (HTR1.out.keep hK2 hI2 HS12.out HLR1.out);have HTL2:Hid (IsT σ2 a (d+1) l):=hZ (HTL1.out.keep hK2 hI2 HS12.out HLL1.out);have HK2:Hid (σ.Keeps R σ2):=hZ (HK1.out.trans hK2 (fun i hi hl=>HK1.out.live HS01.out hl));have HSUB:Hid (∀ z∈R,z∈(if z2=0 then (if z1=0 then R else z1::R) else z2::(if z1=0 then R else z1::R))):=hZ (fun z hz=>HS12.out z (HS01.out z hz));clear hP2 hS2 hI2 hK2 hT2 hr2 hu2 hsp2;refine X2m ?_;clear hK K
 have HSH:Hid (∀ k∈t1.keys++t2.keys,∀ k'∈t1.keys++t2.keys,∀ e,e<d→tb k.l e=tb k'.l e):=hZ (by
  have hm:∀ k∈t1.keys++t2.keys,k∈(Tre.inner l r).keys++xbc (es.take m++es.drop m):=fun k hk=>by
   have hkw:xbc (es.take m++es.drop m)=xbc (es.take m)++xbc (es.drop m):=by simp[xbc]
   rw[hkw];show k∈(l.keys++r.keys)++_;rcases List.mem_append.1 hk with hk | hk
   ·rcases List.mem_append.1 (xhz HSP1.out k hk) with h | h<;>simp[h]
   ·rcases List.mem_append.1 (xhz HSP2.out k hk) with h | h<;>simp[h]
  exact fun k hk k' hk'=>HAL.out k (hm k hk) k' (hm k' hk'))
 have HL:=Loc.start w;obtain⟨w1,rfl⟩:=eW w;by_cases hea:z1=a
 ·by_cases heb:z2=b
  ·have ka:(z1==a)=true:=by simpa using hea
   have kb:(z2==b)=true:=by simpa using heb
   have HE1:Hid (l=t1):=hZ (HTL2.out.uniq (by rw[← hea];exact HT12.out));have HE2:Hid (r=t2):=hZ (HTR2.out.uniq (by rw[← heb];exact HT2.out));have HSPa:Hid (SpB (d+1) l (es.take m) l):=hZ (by have:=HSP1.out;rwa [← HE1.out] at this);have HSPb:Hid (SpB (d+1) r (es.drop m) r):=hZ (by have:=HSP2.out;rwa [← HE2.out] at this);clear hea heb;go_upto_region 18 with fail;refine X19 ?_;refine xaa rfl _ (xao (b:=true) _ _ rfl _ _ rfl rfl ka) ?_;refine X84 ?_;refine xac rfl _ (xao (b:=true) _ _ rfl _ _ rfl rfl kb) ?_;refine X28 ?_;clear ka kb;by_cases hz1:z1=0
   ·by_cases hz2:z2=0
    ·have kz1:(z1==0)=true:=by simpa using hz1
     have kz2:(z2==0)=true:=by simpa using hz2
     have HI3:Hid (σ2.Inv R []):=hZ (by have:=HI2.out;rwa [if_pos hz2,if_pos hz1] at this);go_upto_region 19 with fail;refine X2j ?_;intro K hK
     refine xeu sl71 el3 2 _ rfl HL [iV z1,iV z2] (fun u hu=>by
      rcases List.mem_cons.1 hu with rfl | hu
      ·rfl
      ·rw[List.mem_singleton.1 hu];rfl) rfl (by decide) (by decide) (by simp[Act.eval]) ?_
     clear HL;intro gq w HL;refine hK _ _ ?_;clear hK K;refine Xu ?_;refine Xef ?_;refine X1e ?_;refine Xeg ?_;intro HP3 HS3;refine Xeh ?_;intro HGQ;replace HL:=HL.less (D':=fun _=>False) (fun _ f=>f.elim);clear HP2 HS2;have HQ:=hZ (HL.blk (.head _));clear HL;go_wp2_with fail;refine X69 ?_;rw[rounds_succ];refine Xei ?_;intro HL;go_upto_region 20 with fail;refine Xej ?_;go_upto_region 21 with fail;refine Xt ?_;refine Xek ?_;refine X6 ?_;refine Xel ?_;refine X1a ?_;go_upto_region 22 with fail;refine Xem ?_;refine X1z ?_;clear HL;go_upto_region 24 with fail;refine X6p ?_;go_wp2_with fail;rw[rounds_succ];refine Xei ?_;intro HL;go_upto_region 20 with fail;refine Xej ?_;go_upto_region 21 with fail;refine Xt ?_;refine Xen ?_;refine X6 ?_;refine Xeo ?_;refine X1a ?_;go_upto_region 22 with fail;refine Xep ?_;refine X1z ?_;clear HL
     go_upto_region 24 with fail;refine X6p ?_;go_wp2_with fail;rw[rounds_succ];go_upto_region 20 with fail;refine Xt ?_;refine Xeq ?_
     have HKE:Hid (σ.Keeps R σ2):=hZ (by
      exact HK2.out)
     have HTO:=hZ (HT.out.keep HKE.out HI3.out (fun z hz=>hz) HLV.out);go_upto_region 25 with fail;refine X2j ?_;intro K hK;refine Xe3 ?_;refine X1w ?_;(with_reducible refine(xgt HP3.out R HI3.out zo d (.inner l r) HTO.out (by have:=HRL.out;omega)).mono ?_);rintro e w ⟨z3,D3,vs3,vf3,σ3,rfl,hP3,hS3,hI3,hY3,hT3,hr3,hu3⟩;refine X2m ?_;clear hK K;go_wp2_with fail;go_ret;exact⟨.inner l r,z3,D3,vs3,vf3,σ3,rfl,hP3,HS3.out.trans hS3,hI3,HKE.out.trans (hY3.keeps HI3.out) (fun i hi hl=>HKE.out.live (fun z hz=>hz) hl),hT3,by rw[hr3,HU2.out.1,HU1.out.1],by have q1:=HU1.out;have q3:=HU2.out;have q4:=HRM.out;omega,HES.out▸xjx HOK.out HLB.out HRB.out HZB.out.1 HZB.out.2 HSPa.out HSPb.out⟩
    ·have kz1:(z1==0)=true:=by simpa using hz1
     have kz2:(z2==0)=false:=by simpa using hz2
     have HI3:Hid (σ2.Inv (z2::R) []):=hZ (by have:=HI2.out;rwa [if_neg hz2,if_pos hz1] at this);have HTB:=HT2;go_upto_region 19 with fail;refine X2j ?_;intro K hK
     refine xeu sl71 el3 2 _ rfl HL [iV z1,iV z2] (fun u hu=>by
      rcases List.mem_cons.1 hu with rfl | hu
      ·rfl
      ·rw[List.mem_singleton.1 hu];rfl) rfl (by decide) (by decide) (by simp[Act.eval]) ?_
     clear HL;intro gq w HL;refine hK _ _ ?_;clear hK K;refine Xu ?_;refine Xef ?_;refine X1e ?_;refine Xeg ?_;intro HP3 HS3;refine Xeh ?_;intro HGQ;replace HL:=HL.less (D':=fun _=>False) (fun _ f=>f.elim);clear HP2 HS2;have HQ:=hZ (HL.blk (.head _));clear HL;go_wp2_with fail;refine X69 ?_;rw[rounds_succ];refine Xei ?_;intro HL;go_upto_region 20 with fail;refine Xej ?_;go_upto_region 21 with fail;refine Xt ?_;refine Xek ?_;refine X6 ?_;refine Xel ?_;refine X1a ?_;go_upto_region 22 with fail;refine Xem ?_;refine X1z ?_;clear HL;go_upto_region 24 with fail;refine X6p ?_;go_wp2_with fail;rw[rounds_succ];refine Xei ?_;intro HL;go_upto_region 20 with fail;refine Xej ?_;go_upto_region 21 with fail;refine Xt ?_;refine Xen ?_;refine X6 ?_;refine Xeo ?_;refine X1a ?_;go_upto_region 22 with fail;refine Xer ?_;refine X1z ?_
     obtain⟨i1,hi1,hzi1,_⟩:=HTB.out.nz hz2
     have HRc1:Hid (∀ y,(z2::R).count y=R.count y+if y=(i1:Int)+1 then 1 else 0):=hZ (by
      intro y;rw[← hzi1];simp only[List.count_cons,xd2]
      try omega)
     go_upto_region 23 with fail;refine X9u ?_;intro K hK;(with_reducible refine(xf0 HP3.out (z2::R) R HI3.out z2 i1 hzi1 hi1 HRc1.out (by have:=HRL.out;simp only[qr];omega) (by have:=HRL.out;omega)).mono ?_);rintro e w ⟨m1,D1x,vs1x,vf1x,σ1x,rfl,hP,hS,hI,hK0,hu,hr,_⟩;have HPx1:=hZ hP;have HSx1:=hZ (HS3.out.trans hS);have HI5:=hZ hI;have HKx1:=hZ hK0;have HUx1:=hZ (And.intro hr hu)
     have HGQx1:Hid (¬ D1x gq):=hZ (fun hk=>by
      rcases hS.new _ hk with h1 | h1
      ·exact HGQ.out h1
      ·have:=HQ.out.lt;omega)
     replace HQ:=hZ (HQ.out.fr hS.fr HGQ.out);clear hP hS hI hK0 hu hr HL;refine X20 ?_;clear hK K;go_upto_region 24 with fail;refine X6p ?_;go_wp2_with fail;rw[rounds_succ];go_upto_region 20 with fail;refine Xt ?_;refine Xeq ?_
     have HKE:Hid (σ.Keeps R σ1x):=hZ (by
      exact HK2.out.trans HKx1.out (fun i hi hl=>HK2.out.live (fun z hz=>hz) hl))
     have HTO:=hZ (HT.out.keep HKE.out HI5.out (fun z hz=>hz) HLV.out);go_upto_region 25 with fail;refine X2j ?_;intro K hK;refine Xe3 ?_;refine X1w ?_;(with_reducible refine(xgt HPx1.out R HI5.out zo d (.inner l r) HTO.out (by have:=HRL.out;omega)).mono ?_);rintro e w ⟨z3,D3,vs3,vf3,σ3,rfl,hP3,hS3,hI3,hY3,hT3,hr3,hu3⟩;refine X2m ?_;clear hK K;go_wp2_with fail;go_ret;exact⟨.inner l r,z3,D3,vs3,vf3,σ3,rfl,hP3,HSx1.out.trans hS3,hI3,HKE.out.trans (hY3.keeps HI5.out) (fun i hi hl=>HKE.out.live (fun z hz=>hz) hl),hT3,by rw[hr3,HUx1.out.1,HU2.out.1,HU1.out.1],by have q1:=HU1.out;have q3:=HU2.out;have q4:=HRM.out;have qHUx1:=HUx1.out;omega,HES.out▸xjx HOK.out HLB.out HRB.out HZB.out.1 HZB.out.2 HSPa.out HSPb.out⟩
   ·by_cases hz2:z2=0
    ·have kz1:(z1==0)=false:=by simpa using hz1
     have kz2:(z2==0)=true:=by simpa using hz2
     have HI3:Hid (σ2.Inv (z1::R) []):=hZ (by have:=HI2.out;rwa [if_pos hz2,if_neg hz1] at this);have HTA:=HT12;go_upto_region 19 with fail;refine X2j ?_;intro K hK
     refine xeu sl71 el3 2 _ rfl HL [iV z1,iV z2] (fun u hu=>by
      rcases List.mem_cons.1 hu with rfl | hu
      ·rfl
      ·rw[List.mem_singleton.1 hu];rfl) rfl (by decide) (by decide) (by simp[Act.eval]) ?_
     clear HL;intro gq w HL;refine hK _ _ ?_;clear hK K;refine Xu ?_;refine Xef ?_;refine X1e ?_;refine Xeg ?_;intro HP3 HS3;refine Xeh ?_;intro HGQ;replace HL:=HL.less (D':=fun _=>False) (fun _ f=>f.elim);clear HP2 HS2;have HQ:=hZ (HL.blk (.head _));clear HL;go_wp2_with fail;refine X69 ?_;rw[rounds_succ];refine Xei ?_;intro HL;go_upto_region 20 with fail;refine Xej ?_;go_upto_region 21 with fail;refine Xt ?_;refine Xek ?_;refine X6 ?_;refine Xel ?_;refine X1a ?_;go_upto_region 22 with fail;refine Xes ?_;refine X1z ?_;obtain⟨i0,hi0,hzi0,_⟩:=HTA.out.nz hz1
     have HRc0:Hid (∀ y,(z1::R).count y=R.count y+if y=(i0:Int)+1 then 1 else 0):=hZ (by
      intro y;rw[← hzi0];simp only[List.count_cons,xd2]
      try omega)
     go_upto_region 23 with fail;refine X9u ?_;intro K hK;(with_reducible refine(xf0 HP3.out (z1::R) R HI3.out z1 i0 hzi0 hi0 HRc0.out (by have:=HRL.out;simp only[qr];omega) (by have:=HRL.out;omega)).mono ?_);rintro e w ⟨m0,D0x,vs0x,vf0x,σ0x,rfl,hP,hS,hI,hK0,hu,hr,_⟩;have HPx0:=hZ hP;have HSx0:=hZ (HS3.out.trans hS);have HI5:=hZ hI;have HKx0:=hZ hK0;have HUx0:=hZ (And.intro hr hu)
     have HGQx0:Hid (¬ D0x gq):=hZ (fun hk=>by
      rcases hS.new _ hk with h1 | h1
      ·exact HGQ.out h1
      ·have:=HQ.out.lt;omega)
     replace HQ:=hZ (HQ.out.fr hS.fr HGQ.out);clear hP hS hI hK0 hu hr HL;refine X20 ?_;clear hK K;go_upto_region 24 with fail;refine X6p ?_;go_wp2_with fail;rw[rounds_succ];refine Xei ?_;intro HL;go_upto_region 20 with fail;refine Xej ?_;go_upto_region 21 with fail;refine Xt ?_;refine Xen ?_;refine X6 ?_;refine Xeo ?_;refine X1a ?_;go_upto_region 22 with fail;refine Xep ?_;refine X1z ?_;clear HL;go_upto_region 24 with fail;refine X6p ?_;go_wp2_with fail;rw[rounds_succ];go_upto_region 20 with fail;refine Xt ?_;refine Xeq ?_
     have HKE:Hid (σ.Keeps R σ0x):=hZ (by
      exact HK2.out.trans HKx0.out (fun i hi hl=>HK2.out.live (fun z hz=>hz) hl))
     have HTO:=hZ (HT.out.keep HKE.out HI5.out (fun z hz=>hz) HLV.out);go_upto_region 25 with fail;refine X2j ?_;intro K hK;refine Xe3 ?_;refine X1w ?_;(with_reducible refine(xgt HPx0.out R HI5.out zo d (.inner l r) HTO.out (by have:=HRL.out;omega)).mono ?_);rintro e w ⟨z3,D3,vs3,vf3,σ3,rfl,hP3,hS3,hI3,hY3,hT3,hr3,hu3⟩;refine X2m ?_;clear hK K;go_wp2_with fail;go_ret;exact⟨.inner l r,z3,D3,vs3,vf3,σ3,rfl,hP3,HSx0.out.trans hS3,hI3,HKE.out.trans (hY3.keeps HI5.out) (fun i hi hl=>HKE.out.live (fun z hz=>hz) hl),hT3,by rw[hr3,HUx0.out.1,HU2.out.1,HU1.out.1],by have q1:=HU1.out;have q3:=HU2.out;have q4:=HRM.out;have qHUx0:=HUx0.out;omega,HES.out▸xjx HOK.out HLB.out HRB.out HZB.out.1 HZB.out.2 HSPa.out HSPb.out⟩
    ·have kz1:(z1==0)=false:=by simpa using hz1
     have kz2:(z2==0)=false:=by simpa using hz2
     have HI3:Hid (σ2.Inv (z2::z1::R) []):=hZ (by have:=HI2.out;rwa [if_neg hz2,if_neg hz1] at this);have HTA:=HT12;have HTB:=HT2;go_upto_region 19 with fail;refine X2j ?_;intro K hK
     refine xeu sl71 el3 2 _ rfl HL [iV z1,iV z2] (fun u hu=>by
      rcases List.mem_cons.1 hu with rfl | hu
      ·rfl
      ·rw[List.mem_singleton.1 hu];rfl) rfl (by decide) (by decide) (by simp[Act.eval]) ?_
     clear HL;intro gq w HL;refine hK _ _ ?_;clear hK K;refine Xu ?_;refine Xef ?_;refine X1e ?_;refine Xeg ?_;intro HP3 HS3;refine Xeh ?_;intro HGQ;replace HL:=HL.less (D':=fun _=>False) (fun _ f=>f.elim);clear HP2 HS2;have HQ:=hZ (HL.blk (.head _));clear HL;go_wp2_with fail;refine X69 ?_;rw[rounds_succ];refine Xei ?_;intro HL;go_upto_region 20 with fail;refine Xej ?_;go_upto_region 21 with fail;refine Xt ?_;refine Xek ?_;refine X6 ?_;refine Xel ?_;refine X1a ?_;go_upto_region 22 with fail;refine Xes ?_;refine X1z ?_;obtain⟨i0,hi0,hzi0,_⟩:=HTA.out.nz hz1
     have HRc0:Hid (∀ y,(z2::z1::R).count y=(z2::R).count y+if y=(i0:Int)+1 then 1 else 0):=hZ (by
      intro y;rw[← hzi0];simp only[List.count_cons,xd2]
      try omega)
     go_upto_region 23 with fail;refine X9u ?_;intro K hK;(with_reducible refine(xf0 HP3.out (z2::z1::R) (z2::R) HI3.out z1 i0 hzi0 hi0 HRc0.out (by have:=HRL.out;simp only[qr];omega) (by have:=HRL.out;simp only[qr];omega)).mono ?_);rintro e w ⟨m0,D0x,vs0x,vf0x,σ0x,rfl,hP,hS,hI,hK0,hu,hr,_⟩;have HPx0:=hZ hP;have HSx0:=hZ (HS3.out.trans hS);have HI4:=hZ hI;have HKx0:=hZ hK0;have HUx0:=hZ (And.intro hr hu)
     have HGQx0:Hid (¬ D0x gq):=hZ (fun hk=>by
      rcases hS.new _ hk with h1 | h1
      ·exact HGQ.out h1
      ·have:=HQ.out.lt;omega)
     replace HQ:=hZ (HQ.out.fr hS.fr HGQ.out);clear hP hS hI hK0 hu hr HL;refine X20 ?_;clear hK K;have HTB:=hZ (HTB.out.keep HKx0.out HI4.out (fun z hz=>hz) (.inr (.root _ (by simp))));go_upto_region 24 with fail;refine X6p ?_;go_wp2_with fail;rw[rounds_succ];refine Xei ?_;intro HL;go_upto_region 20 with fail;refine Xej ?_;go_upto_region 21 with fail;refine Xt ?_;refine Xen ?_;refine X6 ?_;refine Xeo ?_;refine X1a ?_;go_upto_region 22 with fail;refine Xer ?_;refine X1z ?_;obtain⟨i1,hi1,hzi1,_⟩:=HTB.out.nz hz2
     have HRc1:Hid (∀ y,(z2::R).count y=R.count y+if y=(i1:Int)+1 then 1 else 0):=hZ (by
      intro y;rw[← hzi1];simp only[List.count_cons,xd2]
      try omega)
     go_upto_region 23 with fail;refine X9u ?_;intro K hK;(with_reducible refine(xf0 HPx0.out (z2::R) R HI4.out z2 i1 hzi1 hi1 HRc1.out (by have:=HRL.out;simp only[qr];omega) (by have:=HRL.out;omega)).mono ?_);rintro e w ⟨m1,D1x,vs1x,vf1x,σ1x,rfl,hP,hS,hI,hK0,hu,hr,_⟩;have HPx1:=hZ hP;have HSx1:=hZ (HSx0.out.trans hS);have HI5:=hZ hI;have HKx1:=hZ hK0;have HUx1:=hZ (And.intro hr hu)
     have HGQx1:Hid (¬ D1x gq):=hZ (fun hk=>by
      rcases hS.new _ hk with h1 | h1
      ·exact HGQx0.out h1
      ·have:=HQ.out.lt;omega)
     replace HQ:=hZ (HQ.out.fr hS.fr HGQx0.out);clear hP hS hI hK0 hu hr HL;refine X20 ?_;clear hK K;go_upto_region 24 with fail;refine X6p ?_;go_wp2_with fail;rw[rounds_succ];go_upto_region 20 with fail;refine Xt ?_;refine Xeq ?_
     have HKE:Hid (σ.Keeps R σ1x):=hZ (by
      have q1:=HK2.out.trans HKx0.out (fun i hi hl=>HK2.out.live (fun z hz=>List.mem_cons_of_mem _ hz) hl)
      exact q1.trans HKx1.out (fun i hi hl=>q1.live (fun z hz=>hz) hl))
     have HTO:=hZ (HT.out.keep HKE.out HI5.out (fun z hz=>hz) HLV.out);go_upto_region 25 with fail;refine X2j ?_;intro K hK;refine Xe3 ?_;refine X1w ?_;(with_reducible refine(xgt HPx1.out R HI5.out zo d (.inner l r) HTO.out (by have:=HRL.out;omega)).mono ?_);rintro e w ⟨z3,D3,vs3,vf3,σ3,rfl,hP3,hS3,hI3,hY3,hT3,hr3,hu3⟩;refine X2m ?_;clear hK K;go_wp2_with fail;go_ret;exact⟨.inner l r,z3,D3,vs3,vf3,σ3,rfl,hP3,HSx1.out.trans hS3,hI3,HKE.out.trans (hY3.keeps HI5.out) (fun i hi hl=>HKE.out.live (fun z hz=>hz) hl),hT3,by rw[hr3,HUx1.out.1,HUx0.out.1,HU2.out.1,HU1.out.1],by have q1:=HU1.out;have q3:=HU2.out;have q4:=HRM.out;have qHUx0:=HUx0.out;have qHUx1:=HUx1.out;omega,HES.out▸xjx HOK.out HLB.out HRB.out HZB.out.1 HZB.out.2 HSPa.out HSPb.out⟩
  ·have ka:(z1==a)=true:=by simpa using hea
   have kb:(z2==b)=false:=by simpa using heb
   clear hea heb;go_upto_region 18 with fail;refine X19 ?_;refine xaa rfl _ (xao (b:=true) _ _ rfl _ _ rfl rfl ka) ?_;refine X84 ?_;refine xac rfl _ (xao (b:=false) _ _ rfl _ _ rfl rfl kb) ?_;refine X28 ?_;go_upto_region 26 with fail;refine X9a ?_;intro K hK;refine xad cf228 rfl _ rfl ?_;refine X1w ?_;(with_reducible refine(xio HP2.out _ R HI2.out d hd256 z1 z2 t1 t2 HT12.out HT2.out HSP1.out.ok HSP2.out.ok (xgw HSP1.out HLB.out HZB.out.1) (xgw HSP2.out HRB.out HZB.out.2) HSH.out (xnu R z1 z2) (by have:=HRL.out;have:=xf1 R z1;have:=xf1 (if z1=0 then R else z1::R) z2;omega) (by have q1:=HU1.out;have q2:=HRM.out;have q3:=HU2.out;omega) (by have q1:=HSP1.out.sz;have q2:=HSP2.out.sz;have q3:=HSZ.out;omega)).mono ?_);rintro e w ⟨z3,D3,vs3,vf3,σ3,rfl,hP3,hS3,hI3,hY3,hT3,hr3,hu3⟩
   refine X2m ?_;clear hK K;go_wp2_with fail;go_ret;exact⟨xb1 t1 t2,z3,D3,vs3,vf3,σ3,rfl,hP3,HS2.out.trans hS3,hI3,HK2.out.trans (hY3.keeps HI2.out) (fun i hi hl=>HK2.out.live (fun z hz=>HSUB.out z hz) hl),hT3,by rw[hr3,HU2.out.1,HU1.out.1],by have q1:=HU1.out;have q3:=HU2.out;have q4:=HRM.out;omega,HES.out▸xjw hd256 HAL.out HLB.out HRB.out HZB.out.1 HZB.out.2 HSP1.out HSP2.out⟩
 ·have ka:(z1==a)=false:=by simpa using hea
  clear hea;go_upto_region 18 with fail;refine X19 ?_;refine xaa rfl _ (xao (b:=false) _ _ rfl _ _ rfl rfl ka) ?_;refine X15 ?_;refine no_implicit_lambda% (X52 ?_);go_upto_region 26 with fail;refine X9a ?_;intro K hK;refine xad cf228 rfl _ rfl ?_;refine X1w ?_;(with_reducible refine(xio HP2.out _ R HI2.out d hd256 z1 z2 t1 t2 HT12.out HT2.out HSP1.out.ok HSP2.out.ok (xgw HSP1.out HLB.out HZB.out.1) (xgw HSP2.out HRB.out HZB.out.2) HSH.out (xnu R z1 z2) (by have:=HRL.out;have:=xf1 R z1;have:=xf1 (if z1=0 then R else z1::R) z2;omega) (by have q1:=HU1.out;have q2:=HRM.out;have q3:=HU2.out;omega) (by have q1:=HSP1.out.sz;have q2:=HSP2.out.sz;have q3:=HSZ.out;omega)).mono ?_);rintro e w ⟨z3,D3,vs3,vf3,σ3,rfl,hP3,hS3,hI3,hY3,hT3,hr3,hu3⟩;refine X2m ?_;clear hK K;go_wp2_with fail;go_ret
  exact⟨xb1 t1 t2,z3,D3,vs3,vf3,σ3,rfl,hP3,HS2.out.trans hS3,hI3,HK2.out.trans (hY3.keeps HI2.out) (fun i hi hl=>HK2.out.live (fun z hz=>HSUB.out z hz) hl),hT3,by rw[hr3,HU2.out.1,HU1.out.1],by have q1:=HU1.out;have q3:=HU2.out;have q4:=HRM.out;omega,HES.out▸xjw hd256 HAL.out HLB.out HRB.out HZB.out.1 HZB.out.2 HSP1.out HSP2.out⟩
theorem xk1(N:Nat)(ih:∀ M,N=M+1→xny M):xny N:=by
 refine⟨fun d hd D w gs g σ vs vf R zo told A n c es h hI ht hlv hok hW hR hal hv hRl hn hts hroom=>?_⟩;by_cases hn0:n=0
 ·subst hn0
  have he:es = []:=by have:=hW.s.len;simpa using this
  subst he;exact xrb N d hd D w gs g σ vs vf R zo told A c h hI ht hok hRl
 ·rcases told with _ | ⟨k,v⟩ | ⟨l,r⟩
  ·exact xuv N d hd D w gs g σ vs vf R zo A n c es h hI ht hlv hok hW hR hal hv hRl hn hts hroom (by omega)
  ·exact xrc N d hd D w gs g σ vs vf R zo k v A n c es h hI ht hlv hok hW hR hal hv hRl hn hts hroom (by omega)
  ·rcases N with _ | M
   ·have h9:=hok.1;exact absurd h9 (by omega)
   ·exact xpr M (ih M rfl) d hd D w gs g σ vs vf R zo l r A n c es h hI ht hlv hok hW hR hal hv hRl hn hts hroom (by omega)
theorem xmi:∀ N,xny N
 | 0=>xk1 0 fun M h=>by omega
 | N+1=>xk1 (N+1) fun M h=>by
  obtain rfl:N=M:=by omega
  exact xmi N
theorem keys_ok(w:World)(A:Option Addr)(n c:Nat)(es:List WE)(h:WriT (fun _=>False) w A n c (es.map Prod.fst) (es.map Prod.snd))(hn:n≤12) :
  Calls prog 223 #[.slice A n c] w fun e w'=>∃ m:Nat,e=.returned (iV m)∧m≤n∧Bw w w':=by
 have hel:es.length=n:=by have:=h.s.len;simpa using this
 have CL:=hZ (xnq (fun _=>False) w A n c es h hn (fun k f=>f.elim));clear h;obtain⟨w0,rfl,HL⟩:=lS w;go_enter func223,ntmps223;go_upto_region 0 with fail;refine X1j ?_;go_upto_region 1 with fail;refine X1v ?_;intro K hK;refine xad cf187 rfl _ rfl ?_;refine X1w ?_;(with_reducible refine(CL.out).mono ?_);rintro e w ⟨v,es3,rfl,hW3,_,_,hl,hb,_⟩;have HN:Hid (v.n=es3.length):=hZ (by have:=hW3.s.len;simpa using this.symm);clear hW3;replace HL:=HL.next hb;clear hb;refine X5k ?_;clear hK K;refine xaa rfl _ (xam underlying220 _ rfl v es3.length rfl HN.out) ?_;refine X1a ?_;go_wp2_with fail;go_ret;exact⟨es3.length,rfl,by omega,HL.below⟩
def xd4(es:List WE):Bool:=es.any fun e=>!e.1.gone&&decide (1024<e.2.length)
theorem longV_no{es:List WE}:xd4 es=false↔∀ e∈es,e.1.gone=false→e.2.length≤1024:=by
 unfold xd4;rw[List.any_eq_false];constructor
 ·intro h e he hg
  have:=h e he;simpa[hg] using this
 ·intro h e he
  cases hg:e.1.gone with
  | true=>simp
  | false=>simpa[hg] using h e he hg
def xg3(es:List WE):Int:=if xd4 es then 4 else 0
theorem xuw{es:List WE}{e:WE}(he:e∈es)(hg:e.1.gone=false)(hl:1024<e.2.length):xd4 es=true :=
 List.any_eq_true.2 ⟨e,he,by simp[hg,hl]⟩
section
variable {D:Nat→Prop}{w w':World}{gs g:Nat}{σ:Sb}{vs vf:Sv}
theorem wrong_ok(h:StP D w gs g σ vs vf)(root:Int)(A:Option Addr)(n c:Nat)(es:List WE)(hW:WriT (fun _=>False) w A n c (es.map Prod.fst) (es.map Prod.snd))(hn:n≤11)
  (hat:∀ u,StP D u gs g σ vs vf→Calls prog 143 #[pG gs,iV root] u (oB u (iV 0))) (hr:1≤σ.room∧σ.room≤65536) (hfit:σ.used+258*n≤σ.room) :
  Calls prog 185 #[pG gs,iV root,.slice A n c] w (oB w (iV (xg3 es))):=by
 have hel:es.length=n:=by have:=hW.s.len;simpa using this
 have HH:=hZ h;have HW:=hZ hW;have HAT:=hZ hat;have HEL:=hZ hel;have HFT:Hid (∀ m:Nat,m≤n→m≤64∧σ.used≤65536∧decide ((σ.used:Int)+258*(m:Int)≤(σ.room:Int))=true):=hZ (fun m hm=>⟨by omega,by omega,by simp;omega⟩);have HRM:=hZ hr;have k3:decide ((n:Int)>64)=false:=by simp;omega
 clear h hW hat hel hr hfit;obtain⟨w0,rfl,HL⟩:=lS w;go_enter func185,ntmps185;go_upto_region 0 with fail;refine X1j ?_;go_upto_region 1 with fail;refine X1v ?_;intro K hK;refine X7t ?_;refine X1w ?_;(with_reducible refine(xhn (HH.out.sw.below HL.below)).mono ?_);rintro e w ⟨rfl,rfl⟩;refine X5k ?_;clear hK K;refine Xet ?_;refine X1z ?_;go_upto_region 3 with fail;refine Xbv ?_;refine X6 ?_;refine xaa rfl _ (xbq (b:=false) _ _ rfl _ _ rfl rfl k3) ?_;refine X1z ?_;go_upto_region 5 with fail;refine Xbv ?_;refine X1e ?_;go_wp2_with fail
 go_loopw [18] (fun z wr=>∃ i:Nat,i≤n∧z=.int .i64 (i:Int)∧xd4 (es.take i)=false∧Loc w0 (Old w0) [] wr) (fun z _=>(n - intOf z).toNat)
 case atStart=>exact⟨0,Nat.zero_le _,rfl,rfl,HL⟩
 case round=>as_aux_lemma =>
  clear HL;obtain⟨i,hi,rfl,hlo,HL⟩:=hrel;obtain⟨w,rfl⟩:=eW wr;by_cases hlt:i<n
  ·have k6:decide ((i:Int)<(n:Int))=true:=by simp;omega
   refine Xam ?_;intro HI;have hil:i<es.length:=by rw[HEL.out];exact hlt
   have hil2:i<(es.map Prod.fst).length:=by simpa using hil
   obtain⟨ad,hA,hrd0⟩:=HW.out.s.at_ i hil2;rw[List.getElem_map] at hrd0;refine Xan ?_;intro HSV;have HRD:∀ (L:BL)(W:World),Loc w0 (Old w0) L W→Hid (Rd W (some (ad.add (i*34))) es[i].1.cells):=fun L W hW=>hZ (hrd0.below hW.below)
   have htx0:=HW.out.tx i hil2;simp only[List.getElem_map,List.getD_eq_getElem?_getD,List.getElem?_map,List.getElem?_eq_getElem hil,Option.map_some,qe] at htx0;have HTX:Hid (es[i].2.length=es[i].1.val.n):=hZ htx0.len
   have HTK:Hid (xd4 (es.take (i+1))=(xd4 (es.take i) || (!es[i].1.gone&&decide (1024<es[i].2.length)))):=hZ (by
    unfold xd4;rw[List.take_succ_eq_append_getElem hil,List.any_append]
    simp only[List.any_cons,List.any_nil,Bool.or_false])
   have HME:=hZ (List.getElem_mem hil);have HLO:=hZ hlo;clear hA hrd0 hil2 htx0 hlo;obtain⟨⟨x,lx⟩,hx⟩:∃ x,es[i]=x:=⟨_,rfl⟩;rw[hx] at HRD HTX HTK HME;clear hx;go_upto_region 6 with fail;refine Xt ?_;refine xaa rfl _ (xax _ _ rfl _ _ rfl rfl k6) ?_;refine X1z ?_;go_upto_region 7 with fail;refine Xt ?_;refine xaa rfl _ (xaz xcq (.tmp 16) _ rfl ad n c i .i64 HSV.out rfl hlt) ?_;refine X6 ?_;refine Xc2 ?_;refine X6 ?_;refine xah zr222 rfl rfl HL ?_;clear HL;intro g8 w HL;refine X6 ?_;refine Xc3 ?_;refine X34 ?_;clear HL;intro w HL
   cases hg:x.gone with
   | true =>
    refine Xc4 ?_;intro HGO;have HNX:Hid (xd4 (es.take (i+1))=false):=hZ (by rw[HTK.out,HLO.out];simp[hg]);clear hg;go_upto_region 8 with fail;refine Xc5 ?_;refine Xc6 ?_;refine X51 ?_;refine no_implicit_lambda% (X2d ?_);refine X27 ?_;have HLd:=HL.drop [] (List.nil_sublist _);clear HL;have HL:=HLd;clear HLd;go_upto_region 10 with fail;refine Xce ?_;go_wp2_with fail;go_roundw
    case rel=>exact⟨i+1,by omega,rfl,HNX.out,HL⟩
    case measure=>simp[intOf]<;>omega
   | false =>
    refine Xcm ?_;intro HGO;have HVN:Hid (x.val.n=lx.length):=hZ HTX.out.symm;by_cases hbig:1024<lx.length
    ·have k8:decide ((lx.length:Int)>1024)=true:=by simp;omega
     have HBAD:Hid (xd4 es=true):=hZ (xuw HME.out hg hbig);clear hg hbig;go_upto_region 8 with fail;refine Xc5 ?_;refine Xcn ?_;refine X51 ?_;refine xac rfl _ (xaf xhk _ rfl _ rfl) ?_;refine X6 ?_;refine Xeu ?_;refine X6 ?_;refine xac rfl _ (xbq (b:=true) _ _ rfl _ _ rfl rfl k8) ?_;refine X28 ?_;go_upto_region 9 with fail;refine X1j ?_;go_wp2_with fail;go_ret;have hE:xg3 es=4:=by unfold xg3;rw[HBAD.out];rfl
     exact⟨by rw[hE];rfl,HL.below⟩
    ·have k8:decide ((lx.length:Int)>1024)=false:=by simp;omega
     have HNX:Hid (xd4 (es.take (i+1))=false):=hZ (by rw[HTK.out,HLO.out];simp[hg];omega);clear hg hbig;go_upto_region 8 with fail;refine Xc5 ?_;refine Xcn ?_;refine X51 ?_;refine xac rfl _ (xaf xhk _ rfl _ rfl) ?_;refine X6 ?_;refine Xeu ?_;refine X6 ?_;refine xac rfl _ (xbq (b:=false) _ _ rfl _ _ rfl rfl k8) ?_;refine X28 ?_;have HLd:=HL.drop [] (List.nil_sublist _);clear HL;have HL:=HLd;clear HLd;go_upto_region 10 with fail;refine Xce ?_;go_wp2_with fail;go_roundw
     case rel=>exact⟨i+1,by omega,rfl,HNX.out,HL⟩
     case measure=>simp[intOf]<;>omega
  ·have k6:decide ((i:Int)<(n:Int))=false:=by simp;omega
   have HOKL:Hid (xd4 es=false):=hZ (by
    have hin:i=n:=by omega
    rw[hin,List.take_of_length_le (by rw[HEL.out];omega)] at hlo
    exact hlo)
   clear hlo;go_upto_region 6 with fail;refine Xt ?_;refine xaa rfl _ (xax _ _ rfl _ _ rfl rfl k6) ?_;refine X1z ?_;go_upto_region 11 with fail;refine X2j ?_;intro K hK;refine X9g ?_;(with_reducible refine(HAT.out _ (HH.out.below HL.below)).mono ?_);refine X7u ?_;clear hK K;intro w HL;go_upto_region 12 with fail;refine Xew ?_;go_upto_region 14 with fail;refine X2j ?_;intro K hK;refine xad cf223 rfl _ rfl ?_;refine X1w ?_;(with_reducible refine(keys_ok _ A n c es ((HW.out.step (Stp.of_below HL.below)).free) (by omega)).mono ?_);rintro e w ⟨m,rfl,hm,hb⟩;replace HL:=HL.next hb;clear hb;refine X1y ?_;clear hK K;refine X50 ?_;intro K hK;refine X9h ?_;(with_reducible refine(xsr (HH.out.sw.below HL.below) HRM.out m (HFT.out m hm).1 (HFT.out m hm).2.1 true (HFT.out m hm).2.2).mono ?_);rintro e w ⟨rfl,rfl⟩;refine X1y ?_;clear hK K
   refine X28 ?_;go_upto_region 16 with fail;refine X1j ?_;go_wp2_with fail;go_ret;have hE:xg3 es=0:=by unfold xg3;rw[HOKL.out];rfl
   exact⟨by rw[hE];rfl,HL.below⟩
end
structure SpA (told:Tre)(es:List WE)(t:Tre):Prop where
 ok:t.Ok 0
 sp:∀ k v,(k,v)∈t.ents↔(xct (es.map pw) k=some (some v)∨(xct (es.map pw) k=none∧(k,v)∈told.ents))
 sz:t.size≤told.size+es.length
theorem SpB.all{told t:Tre}{es es3:List WE}(h:SpB 0 told es3 t)(hr:xf5 es3)(hs:∀ k o,(k,o)∈es3.map pw↔xct (es.map pw) k=some o)(hl:es3.length≤es.length):SpA told es t:=by
 refine⟨h.ok,fun k v=>?_,by have:=h.sz;omega⟩;rw[h.sp,hs]
 have hk:k∉xbc es3↔xct (es.map pw) k=none:=by
  rw[← xdk];constructor
  ·intro hn
   cases hq:xct (es.map pw) k with
   | none=>rfl
   | some o=>exact absurd (List.mem_map.2 ⟨_,(hs k o).2 hq,rfl⟩) hn
  ·intro hn hm
   obtain⟨⟨k',o⟩,h1,h2⟩:=List.mem_map.1 hm;have h2:k'=k:=h2;subst h2;have:=(hs k' o).1 h1;rw[hn] at this;cases this
 rw[hk]
theorem alk0(ks:List D32):Alike 0 ks:=fun k _ k' _ x hx=>absurd hx (Nat.not_lt_zero _)
def ApplyO(D:Nat→Prop)(w:World)(gs g:Nat)(σ:Sb)(R:List Int)(told:Tre)(es:List WE)(c:Nat)(e:Ending)(w':World):Prop :=
 (xd4 es=true∧e=.returned (.tuple #[iV 0,iV 4])∧Bw w w') ∨
 (xd4 es=false∧∃ (t:Tre)(z:Int)(D':Nat→Prop)(vs' vf':Sv)(σ':Sb),e=.returned (.tuple #[iV z,iV 0])∧StP D' w' gs g σ' vs' vf'∧Stp D w D' w'∧σ'.Inv (if z=0 then R else z::R) []∧σ.Keeps R σ'∧IsT σ' z 0 t∧σ'.room=σ.room∧σ'.used≤σ.used+c∧SpA told es t)
theorem xs1{σ:Sb}{R:List Int}{root:Int}{told:Tre}{D:Nat→Prop}{gs g:Nat}{vs vf:Sv}(hI:σ.Inv (if root=0 then R else root::R) [])(ht:IsT σ root 0 told):∀ u,StP D u gs g σ vs vf→Calls prog 143 #[pG gs,iV root] u (oB u (iV 0)):=fun u hu=>by
 by_cases h0:root=0
 ·subst h0
  exact(xss hu.sw).mono fun e w' h=>⟨h.1,by rw[← h.2];exact Below.refl _ _⟩
 ·rw[if_neg h0] at hI
  obtain⟨i,hi,hz,hc,_,_,hk,hd,_⟩:=ht.nz h0;refine athand hu.sw root σ.slots[i].nd σ.slots[i].val (.inl ⟨rfl,i,hz,hi,rfl,rfl,hc⟩) ?_ ?_
  ·cases hin:told.isIn with
   | false=>rw[hin] at hk;exact .inl hk
   | true=>rw[hin] at hk;exact .inr ⟨hk,by simpa using hd hin⟩
  ·rw[hI.held i hi,← hz,List.count_cons]
   simp;omega
theorem apply_ok(D:Nat→Prop)(w:World)(gs g:Nat)(σ:Sb)(vs vf:Sv)(R:List Int)(root:Int)(told:Tre)(A:Option Addr)(n c:Nat)(es:List WE)(h:StP D w gs g σ vs vf)(hI:σ.Inv (if root=0 then R else root::R) [])(ht:IsT σ root 0 told)(hok:told.Ok 0)
  (hW:WriT D w A n c (es.map Prod.fst) (es.map Prod.snd)) (hn:n≤11) (hRl:R.length≤400000000) (hts:told.size≤400000) (hr:1≤σ.room∧σ.room≤65536) (hfit:σ.used+258*n≤σ.room) :
  Calls prog 127 #[pG gs,iV root,.slice A n c] w (ApplyO D w gs g σ R told es (257*n)):=by
 refine Xcz ?_;intro HH HI HT;have HOK:=hZ hok;have HW:=hZ hW;have HRL:=hZ hRl;have HTS:=hZ hts;have HFT:=hZ hfit
 have HLVR:Hid (root=0∨σ.Live (if root=0 then R else root::R) root):=hZ (by
  by_cases h0:root=0
  ·exact .inl h0
  ·exact .inr (.root _ (by rw[if_neg h0];simp)))
 have CW:Hid (Calls prog 185 #[pG gs,iV root,.slice A n c] w (oB w (iV (xg3 es)))):=hZ (wrong_ok h root A n c es hW.free hn (xs1 hI ht) hr hfit);clear h hI ht hok hW hRl hts hr hfit;obtain⟨w0,rfl,HL⟩:=lS w
 cases hlong:xd4 es with
 | true =>
  rw[show xg3 es=4 by unfold xg3;rw[hlong];rfl] at CW;have HLG:=hZ hlong;clear hlong;go_enter func127,ntmps127;go_upto_region 0 with fail;refine X2y ?_;go_upto_region 1 with fail;refine Xed ?_;intro K hK;refine xad cf185 rfl _ rfl ?_;refine X1w ?_;(with_reducible refine(CW.out).mono ?_);refine X7u ?_;clear hK K;intro w HL;go_upto_region 2 with fail;refine Xex ?_;go_upto_region 3 with fail;refine X3s ?_;go_wp2_with fail;go_ret2;exact .inl ⟨HLG.out,rfl,HL.below⟩
 | false =>
  rw[show xg3 es=0 by unfold xg3;rw[hlong];rfl] at CW;have HLG:=hZ hlong;clear hlong;go_enter func127,ntmps127;go_upto_region 0 with fail;refine X2y ?_;go_upto_region 1 with fail;refine Xed ?_;intro K hK;refine xad cf185 rfl _ rfl ?_;refine X1w ?_;(with_reducible refine(CW.out).mono ?_);refine X7u ?_;clear hK K;intro w HL;go_upto_region 2 with fail;refine Xew ?_;go_upto_region 4 with fail;refine Xed ?_;intro K hK;refine xad cf187 rfl _ rfl ?_;refine X1w ?_;(with_reducible refine(xnq D _ A n c es (HW.out.step (Stp.of_below HL.below)) (by omega) (HH.out.below HL.below).sb.lt).mono ?_);rintro e w ⟨v,es3,rfl,hW3,hR3,hS3,hl3,hb3,hf3⟩;have HW3:=hZ hW3;have HR3:=hZ hR3;have HS3:=hZ hS3;have hel:es.length=n:=by have:=HW.out.s.len;simpa using this
  have hel3:es3.length=v.n:=by have:=hW3.s.len;simpa using this
  have HL3:=hZ (And.intro hl3 (show v.n≤n by omega))
  have HV3:Hid (∀ e∈es3,e.1.gone=false→e.2.length≤1024):=hZ (fun e he hg=>by
   have h1:pw e∈es3.map pw:=List.mem_map_of_mem he;have h2:pw e=(e.1.key,some e.2):=by unfold pw;rw[hg];rfl
   rw[h2,hS3] at h1;obtain⟨e1,h3,h4⟩:=List.mem_map.1 (xir _ h1);unfold pw at h4;injection h4 with _ h5
   split at h5
   ·cases h5
   ·next hg1 =>
    injection h5 with h5;rw[← h5]
    exact longV_no.1 HLG.out e1 h3 (by simpa using hg1))
  replace HL:=HL.next hb3
  have CB:Hid (Calls prog 186 #[pG gs,iV root,iV 0,v.v] w (xit D w gs g σ (if root=0 then R else root::R) 0 told es3 ((256+1)*v.n))):=hZ ((xmi 256).run 0 rfl D _ gs g σ vs vf (if root=0 then R else root::R) root told v.A v.n v.c es3 (HH.out.below HL.below) HI.out HT.out (by
    by_cases h0:root=0
    ·exact .inl h0
    ·exact .inr (.root _ (by rw[if_neg h0];simp))) HOK.out HW3.out HR3.out (alk0 _) HV3.out (by have:=HRL.out;have:=xf1 R root;omega) (by have:=HL3.out.2;omega) (by have:=HTS.out;omega) (by have h1:=HL3.out.2;have h2:=HFT.out;have h3:=Nat.mul_le_mul_left 257 h1;omega))
  clear hW3 hR3 hS3 hl3 hb3 hf3 hel hel3;refine X1y ?_;clear hK K;refine X50 ?_;intro K hK;refine xad cf186 rfl _ rfl ?_;refine X1w ?_;(with_reducible refine(CB.out).mono ?_);rintro e w ⟨t,z,D2,vs2,vf2,σ2,rfl,hP2,hS2,hI2,hK2,hT2,hr2,hu2,hsp2⟩;have HP2:=hZ hP2;have HS2:=hZ ((Stp.of_below HL.below).trans hS2);have HI2:=hZ hI2;have HK2:=hZ hK2;have HT2:=hZ hT2;have HU2:Hid (σ2.room=σ.room∧σ2.used≤σ.used+257*n):=hZ ⟨hr2,by have h1:=HL3.out.2;have h3:=Nat.mul_le_mul_left 257 h1;omega⟩;have HSP:=hZ (hsp2.all HR3.out HS3.out HL3.out.1);clear hP2 hS2 hI2 hK2 hT2 hr2 hu2 hsp2 HL;refine X2m ?_;clear hK K;by_cases h0:root=0
  ·have k5:(root==0)=true:=by simpa using h0
   have HI4:Hid (σ2.Inv (if z=0 then R else z::R) []):=hZ (by have:=HI2.out;rw[if_pos h0] at this;exact this);have HK4:Hid (σ.Keeps R σ2):=hZ (by have:=HK2.out;rw[if_pos h0] at this;exact this);clear h0;go_upto_region 5 with fail;refine X12 ?_;refine xaa rfl _ (xa9 (b:=false) _ _ rfl _ _ rfl rfl k5) ?_;refine X1z ?_;go_upto_region 7 with fail;refine X3s ?_;go_wp2_with fail;go_ret2;exact .inr ⟨HLG.out,t,z,D2,vs2,vf2,σ2,rfl,HP2.out,HS2.out,HI4.out,HK4.out,HT2.out,HU2.out.1,HU2.out.2,HSP.out⟩
  ·have k5:(root==0)=false:=by simpa using h0
   have HI4:Hid (σ2.Inv (if z=0 then root::R else z::root::R) []):=hZ (by have:=HI2.out;rw[if_neg h0] at this;exact this);have HK4:Hid (σ.Keeps (root::R) σ2):=hZ (by have:=HK2.out;rw[if_neg h0] at this;exact this)
   have hT3:=HT.out.keep HK4.out HI4.out (fun y hy=>by
    split
    ·exact hy
    ·exact List.mem_cons_of_mem _ hy) (.inr (.root _ (by simp)))
   obtain⟨i,hi,hzi,_⟩:=hT3.nz h0
   have HC:Hid (∀ y,(if z=0 then root::R else z::root::R).count y=(if z=0 then R else z::R).count y+if y=(i:Int)+1 then 1 else 0):=hZ (by
    intro y;rw[← hzi]
    split<;>simp only[List.count_cons,xd2]<;>omega)
   have HLN:Hid ((if z=0 then root::R else z::root::R).length≤1073741824∧(if z=0 then R else z::R).length≤1073741824):=hZ (by
    have:=HRL.out
    split<;>simp only[qr]<;>omega)
   clear h0 hT3;go_upto_region 5 with fail;refine X12 ?_;refine xaa rfl _ (xa9 (b:=true) _ _ rfl _ _ rfl rfl k5) ?_;refine X1z ?_;go_upto_region 6 with fail;refine X9u ?_;intro K hK;(with_reducible refine(xf0 HP2.out _ (if z=0 then R else z::R) HI4.out root i hzi hi HC.out HLN.out.1 HLN.out.2).mono ?_);rintro e w ⟨m,D3,vs3,vf3,σ3,rfl,hP3,hS3,hI3,hK3,hu3,hr3,_⟩;have HP3:=hZ hP3;have HS3:=hZ (HS2.out.trans hS3);have HI3:=hZ hI3
   have HK3:Hid (σ.Keeps R σ3):=hZ ((HK4.out.less (fun y hy=>List.mem_cons_of_mem _ hy)).trans hK3 (fun j hj hl=>(HK4.out.less (R2:=R) (fun y hy=>List.mem_cons_of_mem _ hy)).live (fun y hy=>by
    split
    ·exact hy
    ·exact List.mem_cons_of_mem _ hy) hl))
   have HT3:Hid (IsT σ3 z 0 t):=hZ (HT2.out.keep hK3 hI3 (fun y hy=>hy) (by
    by_cases hz:z=0
    ·exact .inl hz
    ·exact .inr (.root _ (by rw[if_neg hz];simp))))
   have HU3:Hid (σ3.room=σ.room∧σ3.used≤σ.used+257*n):=hZ ⟨by rw[hr3];exact HU2.out.1,by have:=HU2.out.2;omega⟩;clear hP3 hS3 hI3 hK3 hu3 hr3;refine X20 ?_;clear hK K;go_upto_region 7 with fail;refine X3s ?_;go_wp2_with fail;go_ret2;exact .inr ⟨HLG.out,t,z,D3,vs3,vf3,σ3,rfl,HP3.out,HS3.out,HI3.out,HK3.out,HT3.out,HU3.out.1,HU3.out.2,HSP.out⟩
section
variable {D:Nat→Prop}{w w':World}{gd gs g:Nat}{σ:Sb}{vs vf:Sv}{nm:Value}{root:Int}
theorem count_ok(h:StW D w gs σ)(z:Int)(n:Nd)(val:LU)(ok:Bool)(hG:Got σ z n val ok)
  (hroot:∀ u,StW D u gs σ→Calls prog 154 #[pG gs,iV z] u (oB u (iV 0))) :
  Calls prog 94 #[pG gs,iV z] w (oB w (.tuple #[.int .i64 n.size,iV 0])):=by
 have HH:=hZ h;have HR:=hZ hroot;clear h hroot;obtain⟨w0,rfl,HL⟩:=lS w;go_enter func94,ntmps94;go_upto_region 0 with fail;refine X2y ?_;go_upto_region 1 with fail;refine X2j ?_;intro K hK;refine X7t ?_;refine X1w ?_;(with_reducible refine(HR.out _ (HH.out.below HL.below)).mono ?_);refine X7u ?_;clear hK K;intro w HL;go_upto_region 2 with fail;refine X2n ?_;go_upto_region 4 with fail;refine X2j ?_;intro K hK;refine xad cf155 rfl _ rfl ?_;refine X1w ?_;(with_reducible refine(st_size (HH.out.below HL.below) z n val ok hG).mono ?_);refine X4y ?_;clear hK K;intro w HL;refine X1f ?_;go_wp2_with fail;go_ret2;exact⟨rfl,HL.below⟩
theorem xnz(h:DcP D w gd gs g σ vs vf nm root):Calls prog 95 #[pG gd] w fun e w'=>e=.returned (.bool false)∧w=w':=by
 have hc1:=h.c1;have HL:=Loc.start w;clear h;go_enter func95,ntmps95;go_upto_region 0 with fail;refine X1j ?_;go_upto_region 1 with fail;refine X1o ?_;refine X1p ?_;refine xac rfl _ (xaf xnb _ rfl _ rfl) ?_;refine X6 ?_;refine xac rfl _ (xdr xl1 HL _ rfl _ rfl _ (by with_reducible assumption)) ?_;refine X6 ?_;refine X1s ?_;refine X1t ?_;go_wp2_with fail;go_ret;exact⟨rfl,rfl⟩
theorem xps(h:DcP D w gd gs g σ vs vf nm root)(A:Option Addr)(c:Nat)(key:D32)(hr:Rd w A (bvs key.l))(hc:32≤c):Calls prog 89 #[pG gd,.slice A 32 c] w (oB w (.tuple #[.agg key.c.toArray,iV 0])):=by
 have HH:=hZ h;have HR:=hZ hr;clear h hr;obtain⟨w0,rfl,HL⟩:=lS w;go_enter func89,ntmps89;go_upto_region 0 with fail;refine Xt ?_;refine xah zr24 rfl rfl HL ?_;clear HL;intro g4 w HL;refine X1a ?_;go_upto_region 1 with fail;refine Xey ?_;intro K hK;refine X1w ?_;refine Xez ?_;rintro e w ⟨rfl,rfl⟩;refine X20 ?_;clear hK K;go_upto_region 3 with fail;refine X1v ?_;intro K hK;refine Xf0 ?_;refine X1w ?_;(with_reducible refine(of_d _ A 32 c key (HL.rdO HR.out) rfl hc).mono ?_);refine X4y ?_;clear hK K;intro w HL;refine X48 ?_;refine X6v ?_;refine X4c ?_;clear HL;intro w HL;go_wp2_with fail;refine Xf1 ?_;exact⟨rfl,HL.below⟩
theorem xmj(h:DcP D w gd gs g σ vs vf nm root):Calls prog 82 #[pG gd,.string ⟨#[]⟩] w fun e w'=>e=.returned (.tuple #[iV root,iV 0])∧w=w':=by
 have HH:=hZ h;have hc2:=h.c2;clear h;have HL:=Loc.start w;go_enter func82,ntmps82;go_upto_region 0 with fail;refine X2y ?_;go_upto_region 1 with fail;refine Xey ?_;intro K hK;refine Xf2 ?_;rintro e w ⟨rfl,rfl⟩;refine X2m ?_;clear hK K;go_upto_region 3 with fail;refine X5g ?_;go_upto_region 4 with fail;refine X14 ?_;refine Xf3 ?_;refine X22 ?_;refine X1g ?_;go_wp2_with fail;go_ret2;exact⟨rfl,rfl⟩
theorem xpt(h:DcP D w gd gs g σ vs vf nm root):Calls prog 39 #[pG gd] w fun e w'=>e=.returned (iV (σ.used:Int))∧w=w':=by
 have HH:=hZ h;have hc1:=h.c1;clear h;have HL:=Loc.start w;go_enter func39,ntmps39;go_upto_region 0 with fail;refine X1j ?_;go_upto_region 1 with fail;refine Xey ?_;intro K hK;refine Xf2 ?_;rintro e w ⟨rfl,rfl⟩;refine X20 ?_;clear hK K;go_upto_region 3 with fail;refine Xf4 ?_;refine X6 ?_;refine Xf5 ?_;refine X50 ?_;intro K hK;refine xad cf96 rfl _ rfl ?_;refine X1w ?_;(with_reducible refine(xi8 HH.out.st.sw).mono ?_);rintro e w ⟨rfl,rfl⟩;refine X2m ?_;clear hK K;go_wp2_with fail;go_ret;exact⟨rfl,rfl⟩
theorem dc_root(h:DcP D w gd gs g σ vs vf nm root)(n:Nd)(val:LU)(hG:Got σ root n val true):Calls prog 29 #[pG gd,.string ⟨#[]⟩] w (oB w (.tuple #[.agg n.dig.c.toArray,iV 0])):=by
 have HH:=hZ h;have hc1:=h.c1;clear h;obtain⟨w0,rfl,HL⟩:=lS w;go_enter func29,ntmps29;go_upto_region 0 with fail;refine Xt ?_;refine xah zr23 rfl rfl HL ?_;clear HL;intro g4 w HL;refine X1a ?_;go_upto_region 1 with fail;refine X2j ?_;intro K hK;refine Xf6 ?_;refine Xf7 ?_;rintro e w ⟨rfl,rfl⟩;refine X7l ?_;clear hK K;go_upto_region 2 with fail;refine X2n ?_;go_upto_region 4 with fail;refine Xf4 ?_;refine X6 ?_;refine Xf5 ?_;refine X42 ?_;intro K hK;refine X77 ?_;(with_reducible refine(xfi (HH.out.st.sw.below HL.below) root n val hG).mono ?_);refine X4y ?_;clear hK K;intro w HL;refine X4z ?_;refine X4c ?_;clear HL;intro w HL;go_wp2_with fail;refine Xf8 ?_;exact⟨rfl,HL.below⟩
theorem dc_len(h:DcP D w gd gs g σ vs vf nm root)(n:Nd)(val:LU)(ok:Bool)(hG:Got σ root n val ok)
  (hroot:∀ u,StW D u gs σ→Calls prog 154 #[pG gs,iV root] u (oB u (iV 0))) :
  Calls prog 38 #[pG gd,.string ⟨#[]⟩] w (oB w (.tuple #[.int .i64 n.size,iV 0])):=by
 have HH:=hZ h;have HR:=hZ hroot;have hc1:=h.c1;clear h hroot;obtain⟨w0,rfl,HL⟩:=lS w;go_enter func38,ntmps38;go_upto_region 0 with fail;refine X2y ?_;go_upto_region 1 with fail;refine X2j ?_;intro K hK;refine Xf6 ?_;refine Xf7 ?_;rintro e w ⟨rfl,rfl⟩;refine X7l ?_;clear hK K;go_upto_region 2 with fail;refine X2n ?_;go_upto_region 4 with fail;refine Xf4 ?_;refine X6 ?_;refine Xf5 ?_;refine X42 ?_;intro K hK;refine xad cf94 rfl _ rfl ?_;refine X1w ?_;(with_reducible refine(count_ok (HH.out.st.sw.below HL.below) root n val ok hG HR.out).mono ?_);refine X4y ?_;clear hK K;intro w HL;refine X48 ?_;refine X1f ?_;go_wp2_with fail;go_ret2;exact⟨rfl,HL.below⟩
def Puts(D:Nat→Prop)(u:World)(gs g:Nat)(h:Int)(σ':Sv→Sb)(e:Ending)(w':World):Prop:=∃ D' vs' vf' x,e=.returned (.tuple #[iV h,iV 0])∧StP D' w' gs g (σ' x) vs' vf'∧Stp D u D' w'
def DcPuts(D:Nat→Prop)(w:World)(gd gs g:Nat)(nm:Value)(h:Int)(σ':Sv→Sb)(e:Ending)(w':World):Prop:=∃ D' vs' vf' x,e=.returned (iV 0)∧DcP D' w' gd gs g (σ' x) vs' vf' nm h∧Stp (fun k=>D k∨k=gd) w (fun k=>D' k∨k=gd) w'
theorem dc_put(h:DcP D w gd gs g σ vs vf nm root)(A:Option Addr)(c:Nat)(key:D32)(hr:Rd w A (bvs key.l))(hc:32≤c)(B:Option Addr)(m d:Nat)(z:Int)(σ':Sv→Sb)
  (hP:∀ u,Bw w u→Calls prog 90 #[pG gs,iV root,key.a,.slice B m d] u (Puts D u gs g z σ')) :
  Calls prog 34 #[pG gd,.slice A 32 c,.slice B m d] w (DcPuts D w gd gs g nm z σ'):=by
 have HH:=hZ h;have HR:=hZ hr;have HP:=hZ hP;have hc1:=h.c1;have hc2:=h.c2;clear h hr hP;obtain⟨w0,rfl,HL⟩:=lS w;go_enter func34,ntmps34;go_upto_region 0 with fail;refine X1j ?_;go_upto_region 1 with fail;refine Xf9 ?_;intro K hK;refine Xfa ?_;refine X4a ?_;clear hK K;intro w HL;refine Xfc ?_;clear HL;intro g7 w HL;go_upto_region 2 with fail;refine X2n ?_;have hgd:Old w0 gd∧¬ D gd:=⟨HH.out.blk.lt,HH.out.far⟩;refine X55 ?_;intro hB;refine Xfd ?_;intro HA;refine X9l ?_;intro HX;clear HL;have HL:=HX;clear HX;go_upto_region 4 with fail;refine Xfe ?_;refine Xfh ?_;intro HL;refine X6 ?_;refine X73 ?_;refine X3g ?_;refine Xg ?_;intro K hK;refine xad cf90 rfl _ rfl ?_;refine X1w ?_;(with_reducible refine(HP.out _ hB.drew).mono ?_);rintro e w ⟨D',vs',vf',x,rfl,hst,hs⟩
 replace HL:=HL.frame hs.fr (fun k hk hd=>hd.2 hk) HA.2;refine X7e ?_;clear hK K;go_upto_region 5 with fail;refine X2n ?_;have hb2:Blk w gd 166 [nm,pG gs,iV root]:=HL.far hgd HH.out.blk;have hS:Stp D w0 D' w:=(Stp.of_below hB.drew).trans hs
 have hfar : ¬ D' gd:=fun hk=>by
  rcases hS.new _ hk with h1 | h1
  ·exact hgd.2 h1
  ·have:=hgd.1
   unfold Old at this;omega
 clear HL hs HA;have HL:=(Loc.start w).adopt (fun k=>k=gd) [(gd,166,[nm,pG gs,iV root])] (by simp;exact hb2) (by simp);simp only[qn] at HL;obtain⟨w2,rfl⟩:=eW w;go_upto_region 6 with fail;refine X30 ?_;refine Xf3 ?_;refine Xfi ?_;refine X34 ?_;clear HL;intro w HL;go_upto_region 7 with fail;refine X7v ?_;go_wp2_with fail;go_ret;have hf:=HL.frS;have hst2:StP D' w gs g (σ' x) vs' vf':=hst.fr hf (fun k hk e=>hfar (by rw[← e];exact hk));refine⟨D',vs',vf',x,rfl,⟨HL.blk (.head _),hst2,hfar⟩,?_⟩;refine⟨?_,?_,?_⟩
 ·rintro k (hk | rfl)
  ·rcases hS.new k hk with h1 | h1
   ·exact .inl (.inl h1)
   ·exact .inr h1
  ·exact .inl (.inr rfl)
 ·rintro k (hk | rfl)
  ·exact .inl (hS.old k hk)
  ·exact .inr rfl
 ·refine⟨hf.os.trans hS.fr.os,hf.tape.trans hS.fr.tape,hf.output.trans hS.fr.output,Nat.le_trans hS.fr.size hf.size,fun k hk hn=>?_⟩
  rw[hf.block k (Nat.lt_of_lt_of_le hk hS.fr.size) (fun e=>hn (.inr e)),hS.fr.block k hk (fun e=>hn (.inl e))]
theorem dc_get(h:DcP D w gd gs g σ vs vf nm root)(A:Option Addr)(c:Nat)(key:D32)(hr:Rd w A (bvs key.l))(hc:32≤c)(val:LU)
  (hF:∀ u,StW D u gs σ→Calls prog 93 #[pG gs,iV root,key.a] u fun e w'=>∃ v,e=.returned (.tuple #[v,.bool true,iV 0])∧OwnB w' u.heap.size 5 v val∧Bw u w') :
  Calls prog 37 #[pG gd,.string ⟨#[]⟩,.slice A 32 c] w fun e w'=>∃ v,e=.returned (.tuple #[v,.bool true,iV 0])∧OwnB w' w.heap.size 5 v val∧Bw w w':=by
 have HH:=hZ h;have HR:=hZ hr;have HF:=hZ hF;have hc1:=h.c1;clear h hr hF;obtain⟨w0,rfl,HL⟩:=lS w;go_enter func37,ntmps37;go_upto_region 0 with fail;refine Xt ?_;refine X7s ?_;go_upto_region 1 with fail;refine Xf9 ?_;intro K hK;refine Xfa ?_;refine X4a ?_;clear hK K;intro w HL;refine xah zr24 rfl rfl HL ?_;clear HL;intro g9 w HL;refine Xfb ?_;clear HL;intro w HL;go_upto_region 2 with fail;refine X2n ?_;go_upto_region 4 with fail;refine X2j ?_;intro K hK;refine Xf6 ?_;refine Xf7 ?_;rintro e w ⟨rfl,rfl⟩;refine X7l ?_;clear hK K;go_upto_region 5 with fail;refine X2n ?_;have hgd:Old w0 gd:=HH.out.blk.lt;go_upto_region 7 with fail;refine rB (Loc.P HL) [] [6] [0,1,2,3,4,5,6,7,8,9,10,11,12] 0 ?_;refine Xff ?_;intro HL;refine X3g ?_;refine X73 ?_;refine Xh ?_;intro K hK;refine xad cf93 rfl _ rfl ?_;refine X1w ?_
 (with_reducible refine(HF.out _ (HH.out.st.sw.below HL.below)).mono ?_);rintro e w ⟨v,rfl,hov,hb⟩;have hov2:=hov.mono (Nat.le_trans (Nat.le_refl _) HL.fr.size);replace HL:=HL.next hb;clear hb hov;refine X5v ?_;clear hK K;refine X60 ?_;refine X5z ?_;refine X4o ?_;refine X4q ?_;go_wp2_with fail
 go_ret3
 exact⟨v,rfl,hov2,HL.below⟩
end
end Go.Proofs.YtkjjdgnkelchfaaGreat
