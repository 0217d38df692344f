import Derived.Test.YtkjjdgnkelchfaaGreatPNU25
set_option linter.unusedSimpArgs false
set_option linter.unusedVariables false
set_option maxRecDepth 100000
set_option maxHeartbeats 16000000
namespace Go.Proofs.YtkjjdgnkelchfaaGreat
open Go Go.RowKit Go.Proofs.Tryz
theorem Addr.add_block(ad:Addr)(n:Nat):(ad.add n).block=ad.block:=by unfold Addr.add;split<;>rfl
theorem par_at{w:World}{A:Option Addr}{xs:List Par}(h:Rd w A (xs.flatMap Par.cells))(i:Nat)(hi:i<xs.length):∃ ad,A=some ad∧Rd w (some (ad.add (i*33))) xs[i].cells:=by
 obtain⟨ad,e,_⟩:=h (by rw[xaw Par.len];omega);refine⟨ad,e,?_⟩;have h2:=h.cut (i*33) 33;rw[e] at h2;have h3:=xcb (f:=Par.cells) Par.len xs [] i hi;rw[List.append_nil] at h3;rw[h3] at h2;exact h2
theorem par_ne{xs:List Par}(h:0<xs.length):xs.flatMap Par.cells≠[]:=fun e=>by
 have:=congrArg List.length e;rw[xaw Par.len,List.length_nil] at this;omega
theorem Rd.int_at{w:World}{A:Option Addr}{zs:List Int}(h:Rd w A (zs.map (Value.int .i64)))(i:Nat)(hi:i<zs.length):∃ ad,A=some ad∧Rd w (some (ad.add (i*1))) [Value.int .i64 zs[i]]:=by
 obtain⟨ad,e,_⟩:=h (by rw[List.length_map];omega);refine⟨ad,e,?_⟩;have h2:=h.cut (i*1) 1;rw[e] at h2
 have h3:((zs.map (Value.int .i64)).drop (i*1)).take 1 = [Value.int .i64 zs[i]]:=by
  rw[Nat.mul_one,List.drop_eq_getElem_cons (by rw[List.length_map];exact hi)];simp
 rw[h3] at h2;exact h2
section
variable {w w':World}
theorem xry(A:Option Addr)(n c:Nat)(xs:List AcE)(hX:AcsT w A n c xs)(hn:n≤140737488351232)(Ak:Option Addr)(nk ck:Nat)(ka:List D32)(hK:KyS w Ak nk ck ka)(hnk:nk≤140737488351232)
  (Av:Option Addr) (nv cv:Nat) (lvs:List LU) (hV:TxR 0 w ⟨Av,nv,cv⟩ lvs) (At:Option Addr) (nt ct:Nat) (zs:List Int) (hzd:Rd w At (zs.map (Value.int .i64))) (hzl:zs.length=nt) (hzr:∀ z∈zs,-9223372036854775808≤z∧z≤9223372036854775807) :
  Calls prog 5 #[.slice A n c,.slice Ak nk ck,.slice Av nv cv,.slice At nt ct] w (oB w (.bool true)):=by
 have HKA:=hZ hK;have HTV:=hZ hV;have HZ:=hZ hzd;have HZL:=hZ hzl;have HZR:=hZ hzr;have CM:=hZ (made_any A n c xs hX hn);clear hX hK hV hzd hzl hzr;have HL:=Loc.start w;obtain⟨we,rfl⟩:=eW w;go_enter func5,ntmps5;go_upto_region 0 with fail;refine X1j ?_;go_upto_region 1 with fail;refine X1v ?_;intro K hK;refine xad cf28 rfl _ rfl ?_;refine X1w ?_;(with_reducible refine(CM.out).mono ?_);rintro e w ⟨gd,S,t,rfl,hd,hS,hb⟩;clear CM;have HBE:=hZ hb;have HS:Hid (∀ k,S k→we.heap.size≤k∧k<w.heap.size):=hZ (fun k h=>⟨hS k h,hd.lt k h⟩);have HD:=hZ hd;clear hd hS hb HL;have HL:=Loc.start w;obtain⟨w1,rfl⟩:=eW w;refine X7l ?_;clear hK K;go_upto_region 2 with fail;refine X2n ?_;have CR:=hZ (xp6 HD.out);go_upto_region 4 with fail;refine X1v ?_;intro K hK;refine xad cf29 rfl _ rfl ?_;refine Xk5 ?_
 rintro e w ⟨rfl,hb⟩;clear CR;replace HL:=HL.next hb;clear hb;refine X54 ?_;clear hK K;refine xah zr23 rfl rfl HL ?_;clear HL;intro g11 w HL;refine Xia ?_;clear HL;intro w HL;go_upto_region 5 with fail;refine X1v ?_;intro K hK;refine xad cf30 rfl _ rfl ?_;refine X1w ?_;(with_reducible refine(xp7 Ak nk ck ka ((HKA.out.below HBE.out).below HL.below) hnk).mono ?_);rintro e w ⟨sv13,rfl,htx,hb⟩;have HN13:=hZ htx;obtain⟨ds,hds⟩:∃ ds,ka.take 8=ds:=⟨_,rfl⟩;rw[hds] at HN13;have h8:ds.length≤8:=by rw[← hds,List.length_take];omega
 replace HL:=HL.next hb;have HBE5:Hid (Bw we w):=hZ (HBE.out.trans (HL.below.mono HBE.out.size));have HD5:Hid (DkV S w gd t 41280):=hZ (HD.out.below HL.below);have HS5:Hid (∀ k,S k→we.heap.size≤k∧k<w.heap.size):=hZ (fun k h=>⟨(HS.out k h).1,Nat.lt_of_lt_of_le (HS.out k h).2 HL.below.size⟩);have HG11:=hZ (HL.blk (.head _));generalize World.heap _=hh at HN13;clear htx hb hds HL HBE HD HS;have HL:=Loc.start w;obtain⟨w5,rfl⟩:=eW w;refine X2m ?_;clear hK K;have CK:=hZ (xmr _ sv13 ds HN13.out h8);go_upto_region 6 with fail;refine X1v ?_;intro K hK;refine xad cf31 rfl _ rfl ?_;refine Xk2 ?_;rintro e w ⟨sv14,ks,rfl,hky,hris,hmem,hlen,hfar,hb⟩;clear CK;replace HL:=HL.next hb;have HBE6:Hid (Bw we w):=hZ (HBE5.out.trans (HL.below.mono HBE5.out.size));have HD6:Hid (DkV S w gd t 41280):=hZ (HD5.out.below HL.below)
 have HS6:Hid (∀ k,S k→we.heap.size≤k∧k<w.heap.size):=hZ (fun k h=>⟨(HS5.out k h).1,Nat.lt_of_lt_of_le (HS5.out k h).2 HL.below.size⟩);have HG116:Hid (Blk w g11 23 t.dg.c):=hZ (HG11.out.below HL.below HG11.out.lt);have HTX6:=hZ (HN13.out.below HL.below);have HKY:=hZ hky;have HKM:=hZ (And.intro hmem hlen);have HRS:=hZ hris;clear hky hmem hlen hfar hb hris HL HBE5 HD5 HS5 HG11 HN13;have HL:=Loc.start w;obtain⟨w6,rfl⟩:=eW w;refine X7l ?_;clear hK K;have CV:=hZ (xvn HD6.out _ sv13 ds HTX6.out h8);go_upto_region 7 with fail;refine X2j ?_;intro K hK;refine xad cf32 rfl _ rfl ?_;refine X1w ?_;(with_reducible refine(CV.out).mono ?_);rintro e w ⟨ps,ks2,rfl,hbs,hris2,hmem2,_,_,hb⟩;clear CV;have hkk:ks2=ks:=xqa hris2 HRS.out (fun x=>by rw[hmem2,HKM.out.1]);subst hkk;replace HL:=HL.next hb
 have HBE7:Hid (Bw we w):=hZ (HBE6.out.trans (HL.below.mono HBE6.out.size));have HD7:Hid (DkV S w gd t 41280):=hZ (HD6.out.below HL.below);have HS7:Hid (∀ k,S k→we.heap.size≤k∧k<w.heap.size):=hZ (fun k h=>⟨(HS6.out k h).1,Nat.lt_of_lt_of_le (HS6.out k h).2 HL.below.size⟩);have HG117:Hid (Blk w g11 23 t.dg.c):=hZ (HG116.out.below HL.below HG116.out.lt);have HKY7:=hZ (HKY.out.below HL.below);have HPS:=hZ hbs;clear hbs hris2 hmem2 hb HL HBE6 HD6 HS6 HG116 HTX6 HKY;have HL:=Loc.start w;obtain⟨w7,rfl⟩:=eW w;refine X54 ?_;clear hK K;refine xah zr44 rfl rfl HL ?_;clear HL;intro g16 w HL;refine X6 ?_;refine xbo ag44 rfl _ _ rfl HL 0 _ _ _ _ rfl rfl rfl rfl rfl (fun u hu=>by rw[List.mem_singleton.1 hu];exact Sv.one _) ?_;refine X2p ?_;clear HL;intro w HL;refine X6 ?_;refine X10 ?_
 have HBE8:Hid (Bw we w):=hZ (HBE7.out.trans (HL.below.mono HBE7.out.size));have HD8:Hid (DkV S w gd t 41280):=hZ (HD7.out.below HL.below);have HS:Hid (∀ k,S k→we.heap.size≤k∧k<w.heap.size):=hZ (fun k h=>⟨(HS7.out k h).1,Nat.lt_of_lt_of_le (HS7.out k h).2 HL.below.size⟩);have HG11:Hid (Blk w g11 23 t.dg.c):=hZ (HG117.out.below HL.below HG117.out.lt);have HG16:=hZ (HL.blk (.head _));have HKY8:=hZ (HKY7.out.below HL.below);have HPS8:=hZ (HPS.out.below HL.below);obtain⟨m,hm⟩:∃ m,sv14.n=m:=⟨_,rfl⟩;have HN14:=hZ hm;have HKL:Hid (ks2.length=m):=hZ (by rw[HKY7.out.len,hm]);have hm8:m≤8:=by have:=HKL.out;have:=HKM.out.2;omega
 clear HL HBE7 HD7 HS7 HG117 HKY7 HPS hm;have HL:=Loc.start w;obtain⟨w8,rfl⟩:=eW w;obtain⟨ks,rfl⟩:∃ ks,ks=ks2:=⟨_,rfl⟩;go_upto_region 8 with fail;refine X1j ?_;go_upto_region 9 with fail;refine X1j ?_;go_upto_region 10 with fail;refine X1j ?_;go_wp2_with fail
 go_loopw [18,19,20] (fun va vb z wr=>∃ (i:Nat)(s18 s19:Sv)(G18 G19 GV:BL)(el:PaL),va=s18.v∧vb=s19.v∧z=.int .i64 (i:Int)∧i≤m∧Gw 25 1 G18 s18 i (el.map fun x=>x.1.val.v)∧Gw 61 33 G19 s19 i ((el.map Prod.fst).flatMap Par.cells)∧ElI we GV ks i el∧Loc w8 (Old w8) (G18++(G19++GV)) wr) (fun _ _ z _=>(m - intOf z).toNat)
 case atStart=>exact⟨0,Sv.nil,Sv.nil,[],[],[],[],rfl,rfl,rfl,Nat.zero_le _,Gw.nil 25 1,Gw.nil 61 33,⟨by simp,fun x hx=>(by cases hx)⟩,HL⟩
 case round =>
  clear HL;obtain⟨i,s18,s19,G18,G19,GV,el,rfl,rfl,rfl,him,hG18,hG19,hEI,HL⟩:=hrel;obtain⟨w,rfl⟩:=eW wr;by_cases hlt:i<m
  ·have k11:decide ((i:Int)<(m:Int))=true:=by simp;omega
   refine Xb1 ?_;intro HI1
   have hcv:IntKind.u8.wrap (i:Int)=(i:Int):=by
    have:i<8:=by omega
    clear hlt him k11 HI1
    match i,this with
    | 0,_ | 1,_ | 2,_ | 3,_ | 4,_ | 5,_ | 6,_ | 7,_=>rfl
   have HBV:Hid ([Value.int .u8 (i:Int),Value.int .u8 7]=bvs [UInt8.ofNat i,7]):=hZ (by
    have:i<8:=by omega
    clear hlt him k11 HI1 hcv
    match i,this with
    | 0,_ | 1,_ | 2,_ | 3,_ | 4,_ | 5,_ | 6,_ | 7,_=>rfl)
   have hik:i<ks.length:=by rw[HKL.out];exact hlt
   obtain⟨adk,hAk,hrk⟩:=HKY8.out.at_ i hik;have HSK:Hid (sv14.v=.slice (some adk) m sv14.c):=hZ (by unfold Sv.v;rw[hAk,HN14.out]);have HEI:=hZ hEI;have HRK:Hid (Rd w8 (some (adk.add (i*32))) ks[i].c):=hZ hrk;have HSN:∀ (GW:BL)(s:Sv)(l:LU),(∀ x∈GV,x∈GW)→VaX we GW s l→l.length≤1024→Hid (ElI we GW ks (i+1) (el++[(⟨ks[i],s⟩,l)])):=fun GW s l h1 h2 h3=>hZ (HEI.out.snoc hik h1 h2 h3)
   generalize ks[i]=kk at HRK HSN;clear hAk hrk hEI;go_upto_region 11 with fail;refine X19 ?_;refine xaa rfl _ (xam underlying26 _ rfl sv14 m rfl HN14.out) ?_;refine X6 ?_;refine xaa rfl _ (xax (b:=true) _ _ rfl _ _ rfl rfl k11) ?_;refine X1z ?_;go_upto_region 13 with fail;refine X12 ?_;refine xaa rfl _ (xd8 (k':=.u8) underlying3 underlying5 _ rfl .i64 (i:Int) (i:Int) rfl rfl hcv) ?_;refine X6 ?_;refine xrw sl25 el5 rfl _ _ rfl HL _ _ rfl rfl ?_;clear HL;intro g63 w HL;refine X6 ?_;refine X10 ?_;rw[HBV.out] at HL;go_upto_region 14 with fail
   go_cut [75] from 55 to 92 (fun v wx=>∃ bb:Bool,v=.bool bb∧(bb=true→∃ ad s,Av=some ad∧i<nv∧Rd wx (some (ad.add (i*1))) [Sv.v s]∧Tx we s.A s.n s.c (lvs.getD i [])∧s.n≤1024)∧Loc w8 (Old w8) ((g63,5,bvs [UInt8.ofNat i,7])::(G18++(G19++GV))) wx)
   case first =>
    by_cases h1:i<nv
    ·have k3:decide ((i:Int)<(nv:Int))=true:=by simp;omega
     have hiv:i<lvs.length:=by have:=HTV.out.len;simp only at this;omega
     obtain⟨ad,s,hA,_,hr1,htx,_⟩:=HTV.out.at_ i hiv;simp only at hA;have HSV:Hid (Value.slice Av nv cv=.slice (some ad) nv cv):=hZ (by rw[hA]);have HRD:Hid (Rd w8 (some (ad.add (i*1))) [Sv.v s]):=hZ (hr1.below HBE8.out);have HTX:=hZ htx;have HA:=hZ hA;obtain⟨bb,hbb⟩:∃ bb,decide ((s.n:Int)≤1024)=bb:=⟨_,rfl⟩;clear hA hr1 htx;refine Xl5 ?_;refine X6 ?_;refine Xif ?_;refine X84 ?_;refine xac rfl _ (xaz sl50 (.tmp 69) _ rfl ad nv cv i .i64 HSV.out rfl h1) ?_;refine X6 ?_;refine xac rfl _ (xdi sc25 _ rfl (ad.add (i*1)) (Sv.v s) rfl (HL.rdO HRD.out)) ?_;refine X6 ?_;refine xac rfl _ (xam underlying25 _ rfl s s.n rfl rfl) ?_;refine X6 ?_;refine xac rfl _ (xgf (b:=bb) _ _ rfl _ _ rfl rfl hbb) ?_;refine X28 ?_;go_wp2_with fail;go_meet
     case rel=>exact⟨bb,rfl,fun e=>⟨ad,s,HA.out,h1,HL.rdO HRD.out,HTX.out,by rw[e] at hbb;have:=of_decide_eq_true hbb;omega⟩,HL⟩
    ·have k3:decide ((i:Int)<(nv:Int))=false:=by simp;omega
     refine Xl5 ?_;refine X6 ?_;refine Xih ?_;refine Xak ?_;refine no_implicit_lambda% (X2f ?_);go_wp2_with fail;go_meet
     case rel=>exact⟨false,rfl,fun e=>(by cases e),HL⟩
   case rest =>
    clear HL;obtain⟨bb,rfl,hbb,HL⟩:=hcut;obtain⟨w,rfl⟩:=eW wc
    go_upto_if 75 with fail
    go_cut [21] from 55 to 92 (fun v wx=>∃ (s:Sv)(l:LU),v=s.v∧VaX we ((g63,5,bvs [UInt8.ofNat i,7])::GV) s l∧l.length≤1024∧Loc w8 (Old w8) ((g63,5,bvs [UInt8.ofNat i,7])::(G18++(G19++GV))) wx)
    case first =>
     cases bb with
     | true =>
      obtain⟨ad,s,hA,h1,hr,htx,hn⟩:=hbb rfl;have HSV:Hid (Value.slice Av nv cv=.slice (some ad) nv cv):=hZ (by rw[hA]);have HRD:=hZ hr;have HTX:=hZ htx;clear hA hr htx hbb;go_upto_region 15 with fail;refine X19 ?_;refine xaa rfl _ (xaz sl50 (.tmp 76) _ rfl ad nv cv i .i64 HSV.out rfl h1) ?_;refine X6 ?_;refine Xk0 ?_;refine X1a ?_;go_wp2_with fail;go_meet
      case rel=>exact⟨s,_,rfl,.inl HTX.out,by have:=HTX.out.len;omega,HL⟩
     | false =>
      go_wp2_with fail;go_meet
      case rel=>exact⟨⟨aS g63,2,2⟩,[UInt8.ofNat i,7],rfl,.inr ⟨g63,rfl,.head _,rfl⟩,by show 2≤1024;decide,HL⟩
    case rest =>
     clear HL hbb;obtain⟨s,l,rfl,hvx,hll,HL⟩:=hcut;obtain⟨w,rfl⟩:=eW wc;have HSN2:=HSN ((g63,5,bvs [UInt8.ofNat i,7])::GV) s l (fun x hx=>.tail _ hx) hvx hll;clear HSN hvx hll;go_upto_region 16 with fail;refine X19 ?_;refine xd9 sl50 el25 rfl _ rfl HL s.v rfl (Sv.one _) ?_;clear HL;intro g82 w HL;refine X6 ?_;refine Xu ?_;refine X1u ?_;intro K hK;refine xan sl50 el25 _ _ rfl [_,_] i s18 _ hG18 HL rfl ⟨g82,0,none⟩ 1 1 [s.v] rfl (Rd.of_blk0 (es:=[]) (by rw[List.append_nil];exact HL.blk (.head _))) rfl (fun u hu=>by rw[List.mem_singleton.1 hu];exact Sv.one _) (by decide) (by omega) (by omega) ?_;clear HL hG18;intro s18' G18' w hG18 HL;refine Xaa ?_;clear hK K;have HL2:=HL.drop ((g63,5,bvs [UInt8.ofNat i,7])::(G18'++(G19++GV))) (sB _ _);clear HL;have HL:=HL2;clear HL2;go_upto_region 17 with fail;refine X6s ?_
     refine xaa rfl _ (xaz sl26 (.tmp 85) _ rfl adk m sv14.c i .i64 HSK.out rfl hlt) ?_;refine X6 ?_;refine xaa rfl _ (xa5 ag24 _ rfl (adk.add (i*32)) kk.c rfl (HL.rdO HRK.out) (by decide) (D32.cl _)) ?_;refine X15 ?_;refine xaa rfl _ (xbp bs61 _ rfl _ (by exact xnj kk s)) ?_;refine X6 ?_;refine xb2 sl55 el61 (by decide) rfl _ rfl HL (⟨kk,s⟩:Par).cells rfl (Par.len _) ?_;clear HL;intro g91 w HL;refine X6 ?_;refine Xu ?_;refine X1u ?_;intro K hK;refine xan sl55 el61 _ _ rfl ((g91,61,(⟨kk,s⟩:Par).cells)::(g63,5,bvs [UInt8.ofNat i,7])::G18') i s19 _ hG19 HL rfl ⟨g91,0,none⟩ 1 1 (⟨kk,s⟩:Par).cells rfl (Rd.of_blk0 (es:=[]) (by rw[List.append_nil];exact HL.blk (.head _))) (Par.len _) (Par.one _) (by decide) (by omega) (by omega) ?_;clear HL hG19;intro s19' G19' w hG19 HL;refine Xaa ?_;clear hK K
     have HL2:=HL.drop ((g63,5,bvs [UInt8.ofNat i,7])::(G18'++(G19'++GV))) (sB _ _);clear HL;have HL:Loc w8 (Old w8) (G18'++(G19'++((g63,5,bvs [UInt8.ofNat i,7])::GV))) w:=HL2.perm (by rw[← List.append_assoc,← List.append_assoc];exact List.perm_middle);clear HL2;go_upto_region 12 with fail;refine Xb8 ?_;go_wp2_with fail;go_roundw
     case rel=>exact⟨i+1,s18',s19',G18',G19',(g63,5,bvs [UInt8.ofNat i,7])::GV,el++[(⟨kk,s⟩,l)],rfl,rfl,rfl,by omega,by rw[List.map_append];exact hG18,by rw[List.map_append,List.flatMap_append];simpa using hG19,HSN2.out,HL⟩
     case measure=>simp[intOf]<;>omega
  ·have k11:decide ((i:Int)<(m:Int))=false:=by simp;omega
   have hie:i=m:=by omega
   subst hie;have HEI:=hZ hEI;have hkle:ks.length≤i:=by rw[HKL.out];exact Nat.le_refl _
   have HELL:Hid (el.length=i):=hZ (by rw[hEI.len,HKL.out];simp);have HRI:Hid (Rise (xc8 el)):=hZ (hEI.rise hkle HRS.out)
   have HEV:Hid (∀ p∈xc8 el,p.2.length≤1024):=hZ (fun p hp=>by
    obtain⟨x,hx,rfl⟩:=List.mem_map.1 hp
    exact(HEI.out.vx x hx).2)
   have hkf:=hEI.fst hkle
   have htr:TxR 0 w s18 ((xc8 el).map Prod.snd):=by
    have:=hEI.txr (G:=[]) (n:=0) (HBE8.out.trans (HL.below.mono HBE8.out.size)) HL (fun x hx=>by simp[hx]) (hG18.rd (L0:=[]) (L1:=G19++GV) HL) (by rw[hG18.len];exact HELL.out) hG18.cap.1;unfold xc8;rw[List.map_map];exact this
   obtain⟨dx,hdx⟩:∃ x,(updT 256 0 t (xc8 el)).dg=x:=⟨_,rfl⟩;have HDX:=hZ hdx
   have CF:Hid (Calls prog 33 #[t.dg.a,sv14.v,mval ps,s18.v] w (FlO dx w)):=hZ (by
    rw[← hdx]
    exact xrv t (xc8 el) sv14.A sv14.n sv14.c ps s18 ⟨HD8.out.ok,HRI.out,HEV.out,by rw[hkf];exact HKY8.out.below HL.below,by rw[hkf];exact HPS8.out.below HL.below,htr,by rw[HN14.out];exact hm8⟩)
   clear hEI hkf htr hdx;go_upto_region 11 with fail;refine X19 ?_;refine xaa rfl _ (xam underlying26 _ rfl sv14 i rfl HN14.out) ?_;refine X6 ?_;refine xaa rfl _ (xax (b:=false) _ _ rfl _ _ rfl rfl k11) ?_;refine X1z ?_;go_upto_region 18 with fail;refine Xt ?_;refine xaa rfl _ (xc9 ag23 HL _ rfl g11 0 rfl 23 _ _ HG11.out.lt HG11.out (D32.take_ _) (D32.cl _)) ?_;refine X15 ?_;refine xaa rfl _ (xc9 ag44 HL _ rfl g16 0 rfl 44 _ _ HG16.out.lt HG16.out (show(List.drop 0 [ps.v]).take 1 = [ps.v] from rfl) rfl) ?_;refine X42 ?_;intro K hK;refine xad cf33 rfl _ rfl ?_;refine X1w ?_;(with_reducible refine(CF.out).mono ?_);rintro e w ⟨rfl,hb⟩;clear CF;replace HL:=HL.next hb;clear hb;refine X54 ?_;clear hK K;refine xah zr23 rfl rfl HL ?_;clear HL;intro g22 w HL;refine Xia ?_;clear HL;intro w HL
   go_upto_region 19 with fail;refine Xev ?_;refine X24 ?_;refine Xl6 ?_;refine X81 ?_;refine Xl6 ?_;refine X81 ?_;refine Xl6 ?_;refine X28 ?_;clear hG18;obtain⟨m,rfl⟩:∃ m,m=i:=⟨_,rfl⟩;go_upto_region 21 with fail;refine X1j ?_;go_wp2_with fail
   go_loopw [24] (fun z wr=>∃ (i:Nat)(el2:PaL)(Gx:BL),z=.int .i64 (i:Int)∧i≤20∧el2.Perm el∧Gw 61 33 Gx s19 m ((el2.map Prod.fst).flatMap Par.cells)∧Loc w8 (Old w8) ((g22,23,dx.c)::(G18++(Gx++GV))) wr) (fun z _=>(20 - intOf z).toNat)
   case atStart=>exact⟨0,el,G19,rfl,Nat.zero_le _,.refl _,hG19,HL⟩
   case round =>
    clear HL hG19;obtain⟨i,el2,Gx,rfl,hi20,hpe,hGx,HL⟩:=hrel;obtain⟨w,rfl⟩:=eW wr;have HPE:=hZ hpe;have HE2:Hid (el2.length=m):=hZ (by rw[hpe.length_eq];exact HELL.out);have HN19:=hZ hGx.len;clear hpe;obtain⟨w1,rfl⟩:=eW w;go_upto_region 22 with fail
    go_cut [127] from 115 to 154 (fun v wx=>∃ bb:Bool,v=.bool bb∧wx=w1∧(bb=true→i<nt∧i<20∧0<m))
    case first =>
     by_cases h1:i<nt
     ·have k3:decide ((i:Int)<(nt:Int))=true:=by simp;omega
      by_cases h2:i<20
      ·have k6:decide ((i:Int)<20)=true:=by simp;omega
       obtain⟨bb,hbb⟩:∃ bb,decide ((0:Int)<(m:Int))=bb:=⟨_,rfl⟩;refine X19 ?_;refine Xl7 ?_;refine X6 ?_;refine Xif ?_;refine X24 ?_;refine xac rfl _ (xax (b:=true) _ _ rfl _ _ rfl rfl k6) ?_;refine X81 ?_;refine xac rfl _ (xam underlying55 _ rfl s19 m rfl HN19.out) ?_;refine X6 ?_;refine xac rfl _ (xbq (b:=bb) _ _ rfl _ _ rfl rfl hbb) ?_;refine X28 ?_;go_wp2_with fail;go_meet
       case rel=>exact⟨bb,rfl,rfl,fun e=>⟨h1,h2,by rw[e] at hbb;have:=of_decide_eq_true hbb;omega⟩⟩
      ·have k6:decide ((i:Int)<20)=false:=by simp;omega
       refine X19 ?_;refine Xl7 ?_;refine X6 ?_;refine Xif ?_;refine X24 ?_;refine xac rfl _ (xax (b:=false) _ _ rfl _ _ rfl rfl k6) ?_;refine X51 ?_;refine no_implicit_lambda% (X52 ?_);go_wp2_with fail;go_meet
       case rel=>exact⟨false,rfl,rfl,fun e=>by cases e⟩
     ·have k3:decide ((i:Int)<(nt:Int))=false:=by simp;omega
      refine X19 ?_;refine Xl7 ?_;refine X6 ?_;refine Xih ?_;refine X15 ?_;refine no_implicit_lambda% (X2c ?_);refine X1l ?_;refine no_implicit_lambda% (X52 ?_);go_wp2_with fail;go_meet
      case rel=>exact⟨false,rfl,rfl,fun e=>by cases e⟩
    case rest =>
     obtain⟨bb,rfl,rfl,hbb⟩:=hcut;obtain⟨w,rfl⟩:=eW wc
     cases bb with
     | true =>
      obtain⟨h1,h2,hm0⟩:=hbb rfl;have hmL:m≤8:=hm8;refine Xb1 ?_;intro HI1;obtain⟨ai,hai⟩:∃ a,i%m=a:=⟨_,rfl⟩;have hal:ai<m:=by rw[← hai];exact Nat.mod_lt _ hm0
      have hiz:i<zs.length:=by have:=HZL.out;omega
      obtain⟨adt,hAt,hrt⟩:=HZ.out.int_at i hiz;have HZT:Hid (Value.slice At nt ct=.slice (some adt) nt ct):=hZ (by rw[hAt]);have HRT8:Hid (Rd w8 (some (adt.add (i*1))) [Value.int .i64 zs[i]]):=hZ (hrt.below HBE8.out);have HRG:Hid (-9223372036854775808≤zs[i]∧zs[i]≤9223372036854775807):=hZ (HZR.out _ (List.getElem_mem hiz));generalize zs[i]=zi at HRT8 HRG;have hpb:=xlr zi (m:Int) (by omega);obtain⟨bi,hbi⟩:∃ b:Nat,xf7 zi (m:Int)=(b:Int):=⟨(xf7 zi (m:Int)).toNat,by omega⟩;have hbl:bi<m:=by omega
      have CPK:∀ u,Hid (Calls prog 22 #[iV zi,iV m] u fun e w'=>e=.returned (iV bi)∧u=w'):=fun u=>hZ (by rw[← hbi];exact pick_any zi (m:Int) u (by omega) (by omega) HRG.out)
      obtain⟨gx,tl,cap,rfl,hs19,hcap⟩:=hGx.some hm0;have HS19:Hid (s19.v=.slice (aS gx) m cap):=hZ (by rw[hs19];rfl);have hxl:(el2.map Prod.fst).length=m:=by rw[List.length_map];exact HE2.out
      have HPA:Hid ((((el2.map Prod.fst).flatMap Par.cells++tl).drop (ai*33)).take 33=((el2.map Prod.fst)[ai]'(by omega)).cells):=hZ (xcb Par.len (el2.map Prod.fst) tl ai (by omega));have HPB:Hid ((((el2.map Prod.fst).flatMap Par.cells++tl).drop (bi*33)).take 33=((el2.map Prod.fst)[bi]'(by omega)).cells):=hZ (xcb Par.len (el2.map Prod.fst) tl bi (by omega));have HQ1:=hZ (xci Par.len (el2.map Prod.fst) tl ai ((el2.map Prod.fst)[bi]'(by omega)) (by omega));have HQ2:=hZ (xci Par.len ((el2.map Prod.fst).set ai ((el2.map Prod.fst)[bi]'(by omega))) tl bi ((el2.map Prod.fst)[ai]'(by omega)) (by rw[List.length_set];omega))
      have HPM:Hid (∃ el3:PaL,el3.Perm el∧el3.map Prod.fst=((el2.map Prod.fst).set ai ((el2.map Prod.fst)[bi]'(by omega))).set bi ((el2.map Prod.fst)[ai]'(by omega))):=hZ ⟨_,(swap_par el2 ai bi (by rw[HE2.out];exact hal) (by rw[HE2.out];exact hbl)).trans HPE.out,by rw[swap_map];simp⟩
      have HLA:Hid (((el2.map Prod.fst).flatMap Par.cells++tl).length=cap*33∧cap≤maxLen):=hZ (by
       obtain⟨_,⟨h,_⟩ | ⟨g',cap',tl',h,h',_,h3,h4⟩⟩:=hGx
       ·cases h
       ·simp only[List.cons.injEq,Prod.mk.injEq,true_and,and_true] at h
        rw[h',Sv.mk.injEq,Option.some.injEq] at hs19;rw[h.2,← hs19.2.2]
        exact⟨h4,h3⟩)
      have HXL:Hid ((((el2.map Prod.fst).set ai ((el2.map Prod.fst)[bi]'(by omega))).set bi ((el2.map Prod.fst)[ai]'(by omega))).length=m):=hZ (by simp;exact HE2.out);have HXL2:Hid (((el2.map Prod.fst).set ai ((el2.map Prod.fst)[bi]'(by omega))).length=m):=hZ (by simp;exact HE2.out);generalize (el2.map Prod.fst)[ai]'(by omega)=xa at HPA HQ1 HQ2 HPM HXL HXL2;generalize (el2.map Prod.fst)[bi]'(by omega)=xb at HPB HQ1 HQ2 HPM HXL HXL2;obtain⟨xs,hxs⟩:∃ xs,el2.map Prod.fst=xs:=⟨_,rfl⟩;rw[hxs] at HPA HPB HQ1 HQ2 HPM HXL HXL2 HLA hxl HL;have hL2:Loc w8 (Old w8) ((gx,61,xs.flatMap Par.cells++tl)::(g22,23,dx.c)::(G18++GV)) w:=HL.perm (List.Perm.trans (List.Perm.swap _ _ _) (List.Perm.cons _ (List.perm_middle.symm)))
      have HCL:Hid (ai*33+33≤(xs.flatMap Par.cells++tl).length∧bi*33+33≤((xs.set ai xb).flatMap Par.cells++tl).length):=hZ (by
       rw[List.length_append,List.length_append,xaw Par.len,xaw Par.len,hxl,HXL2.out];omega)
      have HZW:∀ W,Loc w8 (Old w8) ((gx,61,xs.flatMap Par.cells++tl)::(g22,23,dx.c)::(G18++GV)) W→Hid (Rd W (some (adt.add (i*1))) [iV zi]):=fun W hW=>hZ (HRT8.out.below hW.below)
      clear HL hGx hAt hrt hbi hpb hxs hbb;have HL:=hL2;clear hL2;go_upto_region 24 with fail;refine rB (Loc.P HL) [] [10] [0,1,2,3,4,5,6,7,8,9,10,11,12] 0 ?_;refine X3v ?_;intro HL;refine xab rfl rfl HL (fun W hW=>xam underlying55 _ rfl s19 m rfl HN19.out) ?_;refine X6 ?_;refine xab rfl rfl HL (fun W hW=>xrx _ _ rfl i m ai rfl rfl (by omega) hm0 (by omega) hai) ?_;refine X71 ?_;refine xab rfl rfl HL (fun W hW=>xaz sl71 (.tmp 134) _ rfl adt nt ct i .i64 HZT.out rfl h1) ?_;refine X6 ?_;refine xab rfl rfl HL (fun W hW=>xdi sc3 _ rfl (adt.add (i*1)) (iV zi) rfl (HZW _ hW).out) ?_;refine X3g ?_;refine xab rfl rfl HL (fun W hW=>xam underlying55 _ rfl s19 m rfl HN19.out) ?_;refine Xh ?_;intro K hK;refine xad cf22 rfl _ rfl ?_;refine X1w ?_;(with_reducible refine((CPK _).out).mono ?_)
      rintro e w ⟨rfl,rfl⟩;refine X5v ?_;clear hK K;refine X4q ?_;go_upto_region 25 with fail;have HX:=HL.drew;have HL2:=HL.drop [] (List.nil_sublist _);clear HL;have HL:=HL2;clear HL2;refine rB (Loc.P HL) [] [7,11,13,14,15] [0,1,2,3,4,5,6,8,9,10] 6 ?_;refine X3v ?_;intro HL;refine X3u ?_;refine X3u ?_;refine xab rfl rfl HL (fun W hW=>xap sl55 (.tmp 145) _ rfl gx m cap bi .i64 HS19.out rfl hbl) ?_;refine X71 ?_;refine xab rfl rfl HL (fun W hW=>xap sl55 (.tmp 149) _ rfl gx m cap ai .i64 HS19.out rfl hal) ?_;refine X6 ?_;refine xcz [7,11] (by kernel_rfl) ?_;refine X4 ?_;refine⟨⟨rfl,?_⟩,⟨rfl,?_⟩,trivial⟩
      ·intro K hK
       refine Xl8 ?_;clear hK K;refine xbk [11,12,13,14,15] 0 (by kernel_rfl) ?_;refine Xbl ?_;intro K hK;refine Xl9 ?_;clear hK K;refine Xla ?_;refine Xh ?_;intro K hK;refine Xlb ?_;clear HL HX;intro w HX;simp only[qg,qh] at HX;refine Xkm ?_;intro HL;refine X3y ?_;clear hK K;intro K hK;refine xbj (xap sl55 (.tmp 143) _ rfl gx m cap bi .i64 HS19.out rfl hbl) ?_;refine X3y ?_;clear hK K;intro K hK;refine Xlc ?_;clear HL HX;intro w HX;simp only[qg,qh] at HX;refine Xkm ?_;intro HL;refine X3x ?_;clear hK K;refine Xa ?_;clear HL;have HL:=HX;clear HX;go_upto_region 23 with fail;refine Xb8 ?_;go_wp2_with fail;go_roundw
       case rel =>
        obtain⟨el3,hp3,hm3⟩:=HPM.out;refine⟨i+1,el3,[(gx,61,((xs.set ai xb).set bi xa).flatMap Par.cells++tl)],rfl,h2,hp3,⟨by rw[hm3,xaw Par.len,HXL.out],.inr ⟨gx,cap,tl,by rw[hm3],hs19,hcap,HLA.out.2,?_⟩⟩,HL.perm (List.Perm.trans (List.Perm.cons _ List.perm_middle) (List.Perm.swap _ _ _))⟩;have h9:=HLA.out.1;rw[List.length_append,xaw Par.len] at h9 ⊢;rw[hm3,HXL.out,← hxl];exact h9
       case measure=>simp[intOf]<;>omega
      ·intro K hK
       refine Xl9 ?_;clear hK K;refine xbk [7,12,13,14,15] 0 (by kernel_rfl) ?_;refine Xbl ?_;intro K hK;refine Xl8 ?_;clear hK K;refine Xla ?_;refine Xh ?_;intro K hK;refine Xlb ?_;clear HL HX;intro w HX;simp only[qg,qh] at HX;refine Xkm ?_;intro HL;refine X3y ?_;clear hK K;intro K hK;refine xbj (xap sl55 (.tmp 143) _ rfl gx m cap bi .i64 HS19.out rfl hbl) ?_;refine X3y ?_;clear hK K;intro K hK;refine Xlc ?_;clear HL HX;intro w HX;simp only[qg,qh] at HX;refine Xkm ?_;intro HL;refine X3x ?_;clear hK K;refine Xa ?_;clear HL;have HL:=HX;clear HX;go_upto_region 23 with fail;refine Xb8 ?_;go_wp2_with fail;go_roundw
       case rel =>
        obtain⟨el3,hp3,hm3⟩:=HPM.out;refine⟨i+1,el3,[(gx,61,((xs.set ai xb).set bi xa).flatMap Par.cells++tl)],rfl,h2,hp3,⟨by rw[hm3,xaw Par.len,HXL.out],.inr ⟨gx,cap,tl,by rw[hm3],hs19,hcap,HLA.out.2,?_⟩⟩,HL.perm (List.Perm.trans (List.Perm.cons _ List.perm_middle) (List.Perm.swap _ _ _))⟩;have h9:=HLA.out.1;rw[List.length_append,xaw Par.len] at h9 ⊢;rw[hm3,HXL.out,← hxl];exact h9
       case measure=>simp[intOf]<;>omega
     | false =>
      clear hbb;have HBE9:Hid (Bw we w):=hZ (HBE8.out.trans (HL.below.mono HBE8.out.size));have HD9:Hid (DkV S w gd t 41280):=hZ (HD8.out.below HL.below);have HG22:=hZ (HL.blk (.head _));have hnS:∀ k,¬ Old w8 k→¬ S k:=fun k h1 h2=>h1 (HS.out k h2).2
      have HN22:Hid (¬ S g22):=hZ (hnS _ (HL.own _ (.head _)).1);have hrow:=hGx.rd (L0:=(g22,23,dx.c)::G18) (L1:=GV) HL
      have hfar:∀ ad,s19.A=some ad→¬ S ad.block:=fun ad e=>hnS _ (fun h=>by
       have:=hGx.fars (N:=w8.heap.size) (fun y hy=>Nat.le_of_not_lt (HL.own y (by simp[hy])).1) ad e
       exact Nat.lt_irrefl _ (Nat.lt_of_lt_of_le h this))
      have HRW:Hid (∀ (j:Nat)(hj:j<el2.length),∃ ad,s19.A=some ad∧Rd w (some (ad.add (j*33))) el2[j].1.cells∧(¬ S ad.block∧ad.block<w.heap.size)):=hZ (fun j hj=>by
       obtain⟨ad,e,hr⟩:=par_at hrow j (by simpa using hj);refine⟨ad,e,by simpa using hr,hfar ad e,?_⟩;rw[e] at hrow
       exact hrow.lt (par_ne (by simpa using Nat.lt_of_le_of_lt (Nat.zero_le _) hj)) rfl)
      have HVS:Hid (∀ x∈el2,Tx w x.1.val.A x.1.val.n x.1.val.c x.2∧x.2.length≤1024∧(x.2≠[]→∀ ad,x.1.val.A=some ad→¬ S ad.block)):=hZ (fun x hx=>by
       obtain⟨h1,h2⟩:=HEI.out.vx x (HPE.out.mem_iff.1 hx);refine⟨h1.tx HBE9.out HL (fun y hy=>by simp[hy]),h2,fun hne ad e=>?_⟩;rcases h1 with h1 | ⟨g,h3,h4,_⟩
       ·have:=h1.rd.lt (by intro h5;apply hne;simpa[bvs] using h5) e
        exact fun h5=>by have:=(HS.out _ h5).1;omega
       ·rw[h3] at e
        cases e
        exact hnS _ (HL.own (g,5,bvs x.2) (by simp[h4])).1)
      have HND:Hid ((xc8 el2).map Prod.fst).Nodup:=hZ (by
       have h1:((xc8 el2).map Prod.fst).Perm ((xc8 el).map Prod.fst):=(HPE.out.map _).map _
       exact h1.nodup_iff.2 (xe3 HRI.out))
      have HPE:Hid ((xc8 el2).Perm (xc8 el)):=hZ (HPE.out.map _);clear hnS hrow hfar HL hGx;have HL:=Loc.start w;obtain⟨w9,rfl⟩:=eW w;go_upto_region 26 with fail;refine X1j ?_;go_wp2_with fail
      go_loopw [27] (fun z wr=>∃ (i:Nat)(S':Nat→Prop)(t':Tre),z=.int .i64 (i:Int)∧i≤m∧DkV S' wr gd t' (41280+258*i)∧Stp S w9 S' wr∧UpS 0 t (xc8 (el2.take i)) t') (fun z _=>(m - intOf z).toNat)
      case atStart=>exact⟨0,S,t,rfl,Nat.zero_le _,HD9.out,Stp.refl _ _,ups_none t HD9.out.ok⟩
      case round =>
       clear HL;obtain⟨i,S',t',rfl,him,hd,hst,hup⟩:=hrel;obtain⟨w,rfl⟩:=eW wr;have HD:=hZ hd;have HST:=hZ hst;have HUP:=hZ hup;clear hd hst hup;have HL:=Loc.start w;obtain⟨wr,rfl⟩:=eW w;by_cases hlt:i<m
       ·have k27:decide ((i:Int)<(m:Int))=true:=by simp;omega
        refine Xb1 ?_;intro HI1;have hie:i<el2.length:=by rw[HE2.out];exact hlt
        obtain⟨ad,hA,hrow,hnad⟩:=HRW.out i hie;obtain⟨htx,hvle,hvfar⟩:=HVS.out el2[i] (List.getElem_mem hie)
        have HTK:Hid (xc8 (el2.take (i+1))=xc8 (el2.take i)++[(el2[i].1.key,el2[i].2)]):=hZ (by
         unfold xc8;rw[List.take_succ_eq_append_getElem hie,List.map_append];rfl)
        have HNK:Hid (el2[i].1.key∉(xc8 (el2.take i)).map Prod.fst):=hZ (by
         intro hm;have h1:=HND.out;rw[← List.take_append_drop i el2] at h1;unfold xc8 at h1;rw[List.map_append,List.map_append,List.nodup_append] at h1
         exact h1.2.2 _ hm _ (List.mem_map.2 ⟨_,List.mem_map.2 ⟨el2[i],by rw[List.drop_eq_getElem_cons hie];exact .head _,rfl⟩,rfl⟩) rfl)
        obtain⟨x,hx⟩:∃ x,el2[i]=x:=⟨_,rfl⟩;rw[hx] at hrow htx hvle hvfar HTK HNK;clear hx;have HSV:Hid (s19.v=.slice (some ad) m s19.c):=hZ (by unfold Sv.v;rw[hA,HN19.out]);have hns:∀ k,k<w9.heap.size→¬ S k→¬ S' k:=fun k hk hn h=>(HST.out.new k h).elim hn (fun h=>by omega)
        have hblk:(ad.add (i*33)).block=ad.block:=Addr.add_block _ _;have hrow2:Rd wr (some (ad.add (i*33))) x.1.cells:=hrow.fr HST.out.fr (fun a e=>by cases e;rw[hblk];exact hnad.1)
        have hkey:Rd wr (some ((ad.add (i*33)).add 0)) x.1.key.c:=by
         have:=hrow2.cut 0 32;rwa [Par.g_key] at this
        have HROW:∀ W,Loc wr (fun k=>k<wr.heap.size∧¬ S' k) [] W→Hid (Rd W (some (ad.add (i*33))) x.1.cells):=fun W hW=>hZ (Rd.keep0 hrow2 hW (fun a e h=>⟨h,by cases e;rw[hblk];exact hns _ hnad.2 hnad.1⟩))
        have HKEY:∀ W,Loc wr (fun k=>k<wr.heap.size∧¬ S' k) [] W→Hid (Rd W (some ((ad.add (i*33)).add 0)) x.1.key.c):=fun W hW=>hZ (Rd.keep0 hkey hW (fun a e h=>⟨h,by cases e;rw[Addr.add_block,hblk];exact hns _ hnad.2 hnad.1⟩))
        have HVX:Hid (Tx wr x.1.val.A x.1.val.n x.1.val.c x.2):=hZ ⟨htx.len,htx.cap,htx.max,htx.rd.frE HST.out.fr (fun hne a e=>hvfar (fun h9=>hne (by rw[h9];rfl)) a e),fun _ _ h=>h⟩;have HVLE:=hZ hvle;have hvn:x.1.val.n≤1024:=by have:=htx.len;omega
        clear hA hrow htx hvle hvfar hnad hblk hrow2 hkey hns;have HLD:Loc wr (fun k=>k<wr.heap.size∧¬ S' k) [] wr:=⟨Fr.refl _ _,fun x h=>(by cases h),List.Pairwise.nil,fun k h=>h.1⟩;have HX:=HL;clear HL;have HL:=HLD;clear HLD;go_upto_region 27 with fail;refine X19 ?_;refine xaa rfl _ (xam underlying55 _ rfl s19 m rfl HN19.out) ?_;refine X6 ?_;refine xaa rfl _ (xax (b:=true) _ _ rfl _ _ rfl rfl k27) ?_;refine X1z ?_;go_upto_region 29 with fail;refine rB (Loc.P HL) [] [6,12] [0,1,2,3,4,5,7,8,9,10,11,6,12,13] 0 ?_;refine X8x ?_;intro HL;refine xab rfl rfl HL (fun W hW=>xaz sl55 (.tmp 162) _ rfl ad m s19.c i .i64 HSV.out rfl hlt) ?_;refine X6 ?_;refine xab rfl rfl HL (fun W hW=>xe0 fa61_0 _ rfl _ rfl) ?_;refine X6 ?_
        refine xab rfl rfl HL (fun W hW=>xa5 ag24 _ rfl ((ad.add (i*33)).add 0) x.1.key.c rfl (HKEY _ hW).out (by decide) (D32.cl _)) ?_;refine X71 ?_;refine xab rfl rfl HL (fun W hW=>xaz sl55 (.tmp 168) _ rfl ad m s19.c i .i64 HSV.out rfl hlt) ?_;refine X6 ?_;refine xab rfl rfl HL (fun W hW=>xe0 fa61_1 _ rfl _ rfl) ?_;refine X6 ?_;refine xab rfl rfl HL (fun W hW=>xdh sc25 _ rfl (ad.add (i*33)) 32 x.1.cells x.1.val.v rfl (HROW _ hW).out (Par.g_val _)) ?_;refine Xh ?_;intro K hK;refine xad cf35 rfl _ rfl ?_;refine X1w ?_;(with_reducible refine(xr6 _ x.1.key).mono ?_);rintro e w ⟨v5,rfl,hob,hb⟩;obtain⟨A5,c5,hv5,h5c,h5m,h5r⟩:=hob.rd;rw[x.1.key.h] at hv5 h5c;subst hv5;have HX2:=HX.drew.next hb;replace HL:=HL.next hb
        have CPUT:Hid (Calls prog 34 #[pG gd,.slice A5 32 c5,x.1.val.v] w fun e w'=>∃ (S2:Nat→Prop)(t2:Tre),e=.returned (iV 0)∧DkV S2 w' gd t2 (41280+258*i+258)∧Stp S' w S2 w'∧SpK 0 t' x.1.key (some x.2) t2):=hZ (xtc (HD.out.below HX2.below) (by omega) A5 c5 x.1.key h5r h5c x.1.val.A x.1.val.n x.1.val.c x.2 (HVX.out.below HX2.below).rd ⟨HVX.out.len,HVX.out.cap,HVX.out.max,hvn⟩);have HBW:=hZ HX2.below;clear hob h5m h5r hb HX HX2;refine X79 ?_;clear hK K;intro K hK;refine Xhz ?_;(with_reducible refine(CPUT.out).mono ?_);rintro e w ⟨S2,t2,rfl,hd2,hst2,hsp⟩;clear CPUT;have HL2:Loc wr (fun k=>k<wr.heap.size∧¬ S' k) [] w:=⟨HL.fr.trans (hst2.fr.sup (fun k hk hD=>hD.2 hk)),fun x h=>(by cases h),List.Pairwise.nil,fun k h=>h.1⟩;clear HL;have HL:=HL2;clear HL2;refine X5v ?_;clear hK K
        refine xab rfl rfl HL (fun W hW=>xa9 (b:=false) _ _ rfl _ _ rfl rfl rfl) ?_;refine Xb ?_;have HD2:=hZ hd2;have HSP:=hZ hsp;have HST2:Hid (Stp S w9 S2 w):=hZ (HST.out.trans ((Stp.of_below HBW.out).trans hst2));clear hd2 hsp hst2 HL;have HL:=Loc.start w;go_upto_region 28 with fail;refine Xb8 ?_;go_wp2_with fail;go_roundw
        case rel=>exact⟨i+1,S2,t2,rfl,by omega,by have:=HD2.out;rwa [show 41280+258*(i+1)=41280+258*i+258 by omega],HST2.out,by rw[HTK.out];exact ups_put HUP.out HSP.out HNK.out⟩
        case measure=>simp[intOf]<;>omega
       ·have k27:decide ((i:Int)<(m:Int))=false:=by simp;omega
        have hie:i=m:=by omega
        subst hie;have hte:xc8 (el2.take i)=xc8 el2:=by rw[List.take_of_length_le (by rw[HE2.out];exact Nat.le_refl _)]
        have HUD:Hid (t'.dg=dx):=hZ (by rw[← HDX.out];exact congrArg Tre.dg (ups_end (t:=t) (t':=t') (fs:=xc8 el2) (by have:=HUP.out;rwa [hte] at this) HPE.out HD9.out.ok HRI.out HEV.out));have HG22r:Hid (Blk wr g22 23 dx.c):=hZ (HG22.out.fr HST.out.fr HN22.out);have HBF:Hid (Bw we wr):=hZ (HBE9.out.trans (HST.out.below (fun k h=>(HS.out k h).1) HBE9.out.size));have CR:=hZ (xp6 HD.out);rw[HUD.out] at CR;clear hte;go_upto_region 27 with fail;refine X19 ?_;refine xaa rfl _ (xam underlying55 _ rfl s19 i rfl HN19.out) ?_;refine X6 ?_;refine xaa rfl _ (xax (b:=false) _ _ rfl _ _ rfl rfl k27) ?_;refine X1z ?_;go_upto_region 31 with fail;refine X1v ?_;intro K hK;refine xad cf29 rfl _ rfl ?_;refine Xk5 ?_;rintro e w ⟨rfl,hb⟩;clear CR;replace HL:=HL.next hb;clear hb;refine X54 ?_;clear hK K
        refine xah zr23 rfl rfl HL ?_;clear HL;intro g28 w HL;refine Xia ?_;clear HL;intro w HL;go_upto_region 32 with fail;refine Xfm ?_;refine X15 ?_;refine xac rfl _ (xbn ag23 HL _ rfl _ rfl _ _ (.head _) (D32.cl _)) ?_;refine X6 ?_;refine xac rfl _ (xc9 ag23 HL _ rfl g22 0 rfl 23 _ _ HG22r.out.lt HG22r.out (D32.take_ _) (D32.cl _)) ?_;refine X6 ?_;refine xac rfl _ (xd1 ab25 _ _ rfl dx dx rfl rfl true (by simp)) ?_;refine X82 ?_;go_wp2_with fail;go_ret;exact⟨rfl,HBF.out.trans (HL.below.mono HBF.out.size)⟩
end
end Go.Proofs.YtkjjdgnkelchfaaGreat
