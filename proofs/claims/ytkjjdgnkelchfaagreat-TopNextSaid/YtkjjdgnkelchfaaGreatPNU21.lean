import Derived.Test.YtkjjdgnkelchfaaGreatPNU20
set_option linter.unusedSimpArgs false
set_option linter.unusedVariables false
set_option maxRecDepth 100000
set_option maxHeartbeats 16000000
namespace Go.Proofs.YtkjjdgnkelchfaaGreat
open Go Go.RowKit Go.Proofs.Tryz
structure AcE where
 a:Acv
 l:LU
 cv:LU
 rs:List RE
structure AcOk (w:World)(x:AcE):Prop where
 k:Tx w x.a.key.A x.a.key.n x.a.key.c x.l
 kb:x.l.length≤140737488351232
 v:Tx w x.a.val.A x.a.val.n x.a.val.c x.cv
 r:RawT (fun _=>False) w x.a.ls.A x.a.ls.n x.a.ls.c x.rs
 rb:∀ e∈x.rs,e.k.length≤140737488351232
 rl:x.a.ls.n≤140737488351232
 nm:x.a.name.length≤maxLen
structure AcsT (w:World)(A:Option Addr)(n c:Nat)(xs:List AcE):Prop where
 rd:Rd w A ((xs.map AcE.a).flatMap Acv.cells)
 len:xs.length=n
 cap:n≤c
 each:∀ x∈xs,AcOk w x
theorem AcsT.at_{w:World}{A:Option Addr}{n c:Nat}{xs:List AcE}(h:AcsT w A n c xs)(i:Nat)(hi:i<xs.length):∃ ad,A=some ad∧Rd w (some (ad.add (i*6))) xs[i].a.cells:=by
 have hl:(xs.map AcE.a).length=xs.length:=by simp
 obtain⟨ad,e,_⟩:=h.rd (by rw[xaw Acv.len];omega);refine⟨ad,e,?_⟩;have h2:=h.rd.cut (i*6) 6;rw[e] at h2;have h3:=xcb (f:=Acv.cells) Acv.len (xs.map AcE.a) [] i (by omega);rw[List.append_nil] at h3;rw[h3,List.getElem_map] at h2;exact h2
theorem AcOk.act{w0 w:World}{S:Nat→Prop}{x:AcE}(h:AcOk w0 x)(hb:Bw w0 w)(hS:∀ k,S k→w0.heap.size≤k)(m:Nat)(hm:m≤x.a.ls.n)(h8:m≤8):ActK S w { x.a with ls:=⟨x.a.ls.A,m,x.a.ls.c⟩ } x.l x.cv (x.rs.take m):=by
 have h1:=h.r.take m hm;have h2:RawT S w0 x.a.ls.A m x.a.ls.c (x.rs.take m):=RawF.raw h1 (RawF.old h1 hS);exact⟨h.k.below hb,h.kb,h.v.below hb,h2.below hb,fun e he=>h.rb e (List.mem_of_mem_take he),h8,h.nm⟩
section
variable {w w':World}
theorem made_any(A:Option Addr)(n c:Nat)(xs:List AcE)(hX:AcsT w A n c xs)(hn:n≤140737488351232) :
  Calls prog 28 #[.slice A n c] w fun e w'=>∃ (gd:Nat)(S:Nat→Prop)(t:Tre),e=.returned (.tuple #[pG gd,.bool true])∧DkV S w' gd t 41280∧(∀ k,S k→w.heap.size≤k)∧Bw w w':=by
 have HX:=hZ hX;have HEL:=hZ hX.len;clear hX;obtain⟨w0,rfl,HL⟩:=lS w;go_enter func28,ntmps28;go_upto_region 0 with fail;refine X2y ?_;go_upto_region 1 with fail;refine Xt ?_;refine X1u ?_;intro K hK;refine xad cf36 rfl _ rfl ?_;refine X1w ?_;(with_reducible refine(dk_newV _).mono ?_);rintro e w ⟨gd,S,rfl,hd,hS,hb⟩;have HD:=hZ hd;have HS:=hZ (fun k (h:S k)=>Nat.le_trans HL.below.size (hS k h));have HB:=hZ (HL.below.trans (hb.mono HL.below.size));clear hd hS hb HL;have HL:=Loc.start w;obtain⟨w1,rfl⟩:=eW w;refine X7l ?_;clear hK K;go_upto_region 2 with fail;refine X1o ?_;refine X1s ?_;refine X1l ?_;refine X5i ?_;intro K hK;refine xad cf6 rfl _ rfl ?_;refine X1w ?_;(with_reducible refine(alive_ok _).mono ?_);refine X4y ?_;clear hK K;intro w HL;refine X29 ?_;go_upto_region 4 with fail;refine X1j ?_
 have HB2:=hZ (HB.out.trans (HL.below.mono HB.out.size));have HD2:=hZ (HD.out.below HL.below);clear HL HB HD;go_wp2_with fail
 go_loopw [6,7] (fun z _ wr=>∃ (i:Nat)(S:Nat→Prop)(t:Tre),z=.int .i64 (i:Int)∧i≤n∧i≤20∧DkV S wr gd t (2064*i)∧(∀ k,S k→w0.heap.size≤k)∧Bw w0 wr) (fun z _ _=>(20 - intOf z).toNat)
 case atStart=>exact⟨0,S,.nil,rfl,Nat.zero_le _,Nat.zero_le _,HD2.out,HS.out,HB2.out⟩
 case round=>as_aux_lemma =>
  clear HD2 HS HB2;obtain⟨i,S,t,rfl,hin,hi20,hd,hS,hb⟩:=hrel;obtain⟨w,rfl⟩:=eW wr;have HD:=hZ hd;have HS:=hZ hS;have HB:=hZ hb;clear hd hS hb;have HL:=Loc.start w;obtain⟨w1,rfl⟩:=eW w;go_upto_region 5 with fail
  go_cut [29] from 22 to 29 (fun v wx=>∃ bb:Bool,v=.bool bb∧wx=w1∧(bb=true→i<n∧i<20))
  case first =>
   by_cases h1:i<n
   ·have k3:decide ((i:Int)<(n:Int))=true:=by simp;omega
    obtain⟨bb,hbb⟩:∃ bb,decide ((i:Int)<20)=bb:=⟨_,rfl⟩;refine Xie ?_;refine X6 ?_;refine Xif ?_;refine X24 ?_;refine Xig ?_;go_wp2_with fail;go_meet
    case rel=>exact⟨bb,rfl,rfl,fun e=>⟨h1,by rw[← hbb] at e;have:=of_decide_eq_true e;omega⟩⟩
   ·have k3:decide ((i:Int)<(n:Int))=false:=by simp;omega
    refine Xie ?_;refine X6 ?_;refine Xih ?_;refine X15 ?_;refine no_implicit_lambda% (X2f ?_);go_wp2_with fail;go_meet
    case rel=>exact⟨false,rfl,rfl,fun e=>by cases e⟩
  case rest =>
   clear HL;obtain⟨bb,rfl,rfl,hlt⟩:=hcut;obtain⟨w1,rfl⟩:=eW wc;have HL:=Loc.start w1
   cases bb with
   | true =>
    replace hlt:=hlt rfl;refine Xb1 ?_;intro HI1;have hix:i<xs.length:=by rw[HEL.out];exact hlt.1
    obtain⟨ad,hA,hrd0⟩:=HX.out.at_ i hix;refine Xan ?_;intro HSV;have HRD:Hid (Rd w1 (some (ad.add (i*6))) xs[i].a.cells):=hZ (hrd0.below HB.out);have HEA:=hZ (HX.out.each _ (List.getElem_mem hix));obtain⟨x,hx⟩:∃ x,xs[i]=x:=⟨_,rfl⟩;rw[hx] at HRD HEA;clear hx hA hrd0;go_upto_region 7 with fail;refine X19 ?_;refine xaa rfl _ (xaz sl84 (.tmp 32) _ rfl ad n c i .i64 HSV.out rfl hlt.1) ?_;refine X6 ?_;refine xaa rfl _ (xa5 ag159 _ rfl _ x.a.cells rfl HRD.out (by omega) (Acv.len _)) ?_;refine X6 ?_;refine xah zr159 rfl rfl HL ?_;clear HL;intro g7 w HL;refine X6 ?_;refine xbo ag159 rfl _ _ rfl HL 0 _ _ _ _ rfl rfl rfl (Acv.len _) rfl (Acv.one _) ?_;refine X2t ?_;clear HL;intro w HL;obtain⟨b8,hb8⟩:∃ b,decide ((8:Int)<(x.a.ls.n:Int))=b:=⟨_,rfl⟩;have HLN:Hid (x.a.ls.n=x.a.ls.n):=hZ rfl
    go_upto_region 8 with fail;refine Xt ?_;refine Xi1 ?_;refine X6 ?_;refine Xi2 ?_;refine X6 ?_;refine xaa rfl _ (xam underlying73 _ rfl x.a.ls x.a.ls.n rfl rfl) ?_;refine X6 ?_;refine xaa rfl _ (xbq (b:=b8) _ _ rfl _ _ rfl rfl hb8) ?_;refine X1z ?_;have HB8:=hZ hb8;clear hb8
    go_upto_if 39 with fail
    go_cut [] from 22 to 46 (fun wx=>∃ (a':Acv)(rs':List RE),Loc w1 (Old w1) [(g7,159,a'.cells)] wx∧ActK S w1 a' x.l x.cv rs')
    case first =>
     cases b8 with
     | true =>
      have H8C:Hid (8≤x.a.ls.c∧8≤x.a.ls.n):=hZ (by have:=of_decide_eq_true HB8.out;have:=HEA.out.r.cap;omega);go_upto_region 9 with fail;refine Xt ?_;refine Xi1 ?_;refine X6 ?_;refine Xi2 ?_;refine X6 ?_;refine xaa rfl _ (xbw sl73 _ _ rfl x.a.ls.A x.a.ls.n x.a.ls.c 8 .i64 rfl rfl H8C.out.1) ?_;refine X6 ?_;refine Xi1 ?_;refine X6 ?_;refine xa3 sc73 rfl _ _ rfl HL 0 _ _ _ _ _ (Sv.v ⟨x.a.ls.A,8,x.a.ls.c⟩) rfl rfl rfl rfl (by rw[Acv.len];decide) (Acv.s_ls _ _) ?_;refine X2t ?_;clear HL;intro w HL;go_wp2_with fail;go_meet
      case rel=>exact⟨_,_,HL,HEA.out.act HB.out HS.out 8 H8C.out.2 (Nat.le_refl _)⟩
     | false =>
      go_wp2_with fail;go_meet
      case rel =>
       have h9:=HEA.out.act (w:=w1) HB.out HS.out x.a.ls.n (Nat.le_refl _) (by have:=of_decide_eq_false HB8.out;omega);exact⟨x.a,_,HL,h9⟩
    case rest =>
     clear HL HB8 HRD HEA;obtain⟨a',rs',HL,hact⟩:=hcut;obtain⟨w,rfl⟩:=eW wc;have HAC:=hZ hact;clear hact;have HU:Hid (2064*i+2064≤60000∧2064*i+2064=2064*(i+1)):=hZ (by omega);go_upto_region 10 with fail;refine X12 ?_;refine xaa rfl _ (xbn ag159 HL _ rfl _ rfl _ _ (.head _) (Acv.len _)) ?_;refine X50 ?_;intro K hK;refine xad cf81 rfl _ rfl ?_;refine X1w ?_;(with_reducible refine(do_any (HD.out.below HL.below) HU.out.1 a' x.l x.cv rs' (HAC.out.below HL.below)).mono ?_);rintro e w ⟨⟨r,rfl⟩,S',t',hd',hs'⟩;have HD':=hZ hd';have HST':Hid (Stp S w1 S' w):=hZ ((Stp.of_below HL.below).trans hs');clear hd' hs' HL;have HL:=Loc.start w;refine X20 ?_;clear hK K;go_upto_region 6 with fail;refine Xb8 ?_;go_wp2_with fail;go_roundw
     case rel=>exact⟨i+1,S',t',rfl,by omega,by omega,by rw[← HU.out.2];exact HD'.out,fun k hk=>by
      rcases HST'.out.new k hk with h1 | h1
      ·exact HS.out k h1
      ·have:=HB.out.size;omega,xuz HB.out HST'.out HS.out⟩
     case measure=>simp[intOf]<;>omega
   | false =>
    go_upto_region 11 with fail;refine X3s ?_;go_wp2_with fail;go_ret2;exact⟨gd,S,t,rfl,HD.out.more (by omega),HS.out,HB.out⟩
theorem xp7(A:Option Addr)(n c:Nat)(ks:List D32)(hK:KyS w A n c ks)(hn:n≤140737488351232) :
  Calls prog 30 #[.slice A n c,iV 8] w fun e w'=>∃ sv:Sv,e=.returned sv.v∧TxR w.heap.size w' sv ((ks.take 8).map D32.l)∧Bw w w':=by
 have HK:=hZ hK;have HEL:=hZ hK.len;clear hK;obtain⟨w0,rfl,HL⟩:=lS w;go_enter func30,ntmps30;go_upto_region 0 with fail;refine X1j ?_;go_upto_region 1 with fail;refine X1j ?_;go_upto_region 2 with fail;refine X1j ?_;go_wp2_with fail
 go_loopw [5,6] (fun v z wr=>∃ (i:Nat)(Go Gs:BL)(so:Sv)(vs:List Sv),v=so.v∧z=.int .i64 (i:Int)∧i≤n∧i≤8∧Gws Gs vs ((ks.take i).map D32.l)∧Gw 25 1 Go so i (vs.map Sv.v)∧Loc w0 (Old w0) (Go++(Gs++[])) wr) (fun _ z _=>(8 - intOf z).toNat)
 case atStart=>exact⟨0,[],[],Sv.nil,[],rfl,rfl,Nat.zero_le _,Nat.zero_le _,Gws.nil,Gw.nil 25 1,HL⟩
 case round=>as_aux_lemma =>
  clear HL;obtain⟨i,Go,Gs,so,vs,rfl,rfl,hin,hi8,hGs,hGo,HL⟩:=hrel;obtain⟨w,rfl⟩:=eW wr;go_upto_region 3 with fail
  go_cut [15] from 7 to 15 (fun v wx=>∃ bb:Bool,v=.bool bb∧Loc w0 (Old w0) (Go++(Gs++[])) wx∧(bb=true→i<n∧i<8)∧(bb=false→i=n∨i=8))
  case first =>
   by_cases h1:i<n
   ·have k3:decide ((i:Int)<(n:Int))=true:=by simp;omega
    obtain⟨bb,hbb⟩:∃ bb,decide ((i:Int)<8)=bb:=⟨_,rfl⟩;refine X19 ?_;refine Xii ?_;refine X6 ?_;refine Xif ?_;refine X84 ?_;refine Xig ?_;go_wp2_with fail;go_meet
    case rel=>exact⟨bb,rfl,HL,fun e=>⟨h1,by rw[← hbb] at e;have:=of_decide_eq_true e;omega⟩,fun e=>.inr (by rw[← hbb] at e;have:=of_decide_eq_false e;omega)⟩
   ·have k3:decide ((i:Int)<(n:Int))=false:=by simp;omega
    refine X19 ?_;refine Xii ?_;refine X6 ?_;refine Xih ?_;refine X15 ?_;refine no_implicit_lambda% (X52 ?_);go_wp2_with fail;go_meet
    case rel=>exact⟨false,rfl,HL,fun e=>(by cases e),fun _=>.inl (by omega)⟩
  case rest =>
   clear HL;obtain⟨bb,rfl,HL,hlt,hge⟩:=hcut;obtain⟨w,rfl⟩:=eW wc
   cases bb with
   | true =>
    replace hlt:=hlt rfl;refine Xb1 ?_;intro HI1;have hix:i<ks.length:=by rw[HEL.out];exact hlt.1
    obtain⟨ad,hA,hrd0⟩:=HK.out.at_ i hix;refine Xan ?_;intro HSV;have HRD:Hid (Rd w (some (ad.add (i*32))) ks[i].c):=hZ (hrd0.below HL.below);have HTK:Hid ((ks.take (i+1)).map D32.l=(ks.take i).map D32.l++[ks[i].l]):=hZ (by rw[List.take_succ_eq_append_getElem hix,List.map_append];rfl);obtain⟨x,hx⟩:∃ x,ks[i]=x:=⟨_,rfl⟩;rw[hx] at HRD HTK;clear hx hA hrd0 hge;go_upto_region 5 with fail;refine X6s ?_;refine xaa rfl _ (xaz sl26 (.tmp 19) _ rfl ad n c i .i64 HSV.out rfl hlt.1) ?_;refine X6 ?_;refine xaa rfl _ (xa5 ag24 _ rfl _ x.c rfl HRD.out (by omega) (D32.cl _)) ?_;refine X50 ?_;intro K hK;refine xad cf35 rfl _ rfl ?_;refine X1w ?_;(with_reducible refine(xr6 _ x).mono ?_);rintro e w ⟨v,rfl,ho,hb⟩;obtain⟨G9,s9,rfl,hG9,HL1⟩:=HL.took hb ho;clear HL hb ho;have HL:=HL1;clear HL1
    simp only[qm,qo,qn] at HL;refine X1y ?_;clear hK K;refine X50 ?_;intro K hK;refine xeu sl50 el25 1 _ rfl HL [Sv.v s9] (by simp[Sv.v,Value.oneCell']) rfl (by omega) (by omega) (by simp[Act.eval]) ?_;clear HL;intro g55 w HL;refine hK _ _ ?_;clear hK K;refine Xu ?_;refine X1u ?_;intro K hK;refine xan sl50 el25 _ _ rfl [_] i so _ hGo HL rfl ⟨g55,0,none⟩ 1 1 [Sv.v s9] rfl (Rd.of_blk0 (es:=[]) (by simpa using HL.blk (.head _))) rfl (by simp[Sv.v,Value.oneCell']) (by omega) (by omega) (by omega) ?_;clear HL hGo;intro so' Go' w hGo HL;simp only[qm,qn] at HL;refine Xaa ?_;clear hK K;go_upto_region 4 with fail;refine Xb8 ?_;go_wp2_with fail;go_roundw
    case rel =>
     refine⟨i+1,Go',Gs++G9,so',vs++[s9],rfl,rfl,by omega,by omega,?_,?_,?_⟩
     ·rw[HTK.out];exact Gws.snoc hGs hG9
     ·rw[List.map_append];exact hGo
     ·have HL2:=HL.drop (Go'++(Gs++(G9++[]))) (sB _ _)
      simpa only[List.append_assoc] using HL2
    case measure=>simp[intOf]<;>omega
   | false =>
    have hend:(ks.take i).map D32.l=(ks.take 8).map D32.l:=by
     rcases hge rfl with h | h
     ·rw[List.take_of_length_le (by rw[HEL.out];omega),List.take_of_length_le (by rw[HEL.out];omega)]
     ·rw[h]
    rw[hend] at hGs
    have HTX:Hid (TxR w0.heap.size w so ((ks.take 8).map D32.l)):=hZ (by
     have hN:∀ x∈Go++(Gs++[]),w0.heap.size≤x.1:=fun x hx=>Nat.le_of_not_lt fun hlt=>(HL.own x hx).1 hlt
     have hall:=hGs.all (fun x hx=>by simp[hx]) (fun x hx=>hN x (by simp[hx])) HL;have hle:=hall.len;have hcp:=hGo.cap;have hgl:=hGo.len;refine⟨⟨vs,hGo.rd (L0:=[]) HL,hall⟩,hGo.fars (fun x hx=>hN x (by simp[hx])),?_,hcp.1⟩;have h1:=hGo.1;rw[List.length_map] at h1
     rw[← hle,hgl,h1];omega)
    clear hlt hge hend hGs hGo;go_upto_region 6 with fail;refine X7v ?_;go_wp2_with fail;go_ret;exact⟨so,rfl,HTX.out,HL.below⟩
end
end Go.Proofs.YtkjjdgnkelchfaaGreat
namespace Go.Proofs.YtkjjdgnkelchfaaGreat
open Go Go.RowKit Go.ChangeShapes Go.WideShapes Go.ChangeAt Go.Proofs.Tryz
instance :Inhabited (Sv×LU):=⟨⟨Sv.nil,[]⟩⟩
instance :Inhabited AcE:=⟨⟨⟨0,[],Sv.nil,Sv.nil,Sv.nil,0⟩,[],[],[]⟩⟩
section
variable {H:Type}{enc:TypeId×Value→H}{P:Program}{W:World}{base:Nat}
theorem wstruct6{t:TypeId}{f0 f1 f2 f3 f4 f5:Field}{x0 x1 x2 x3 x4 x5:DataW H}(hu:P.underlying t=some (.struct #[f0,f1,f2,f3,f4,f5]))(h:WOk P t (.agg [x0,x1,x2,x3,x4,x5])):WOk P f2.type x2∧WOk P f3.type x3∧WOk P f4.type x4:=by
 have h1:∀ n∈x0.weights P f0.type++(x1.weights P f1.type++(x2.weights P f2.type++(x3.weights P f3.type++(x4.weights P f4.type++(x5.weights P f5.type++[]))))),n≤reachBytes:=by
  intro n hn;refine h n ?_;unfold DataW.weights;rw[hu];simp only[qk,ql];simp only[DataW.weightsEach];exact hn
 exact⟨fun n hn=>h1 n (by simp[hn]),fun n hn=>h1 n (by simp[hn]),fun n hn=>h1 n (by simp[hn])⟩
theorem act_at{C R E T Q S:TypeId}{g0 g1 g2 g3 g4 g5 f0 f1 f2:Field}(hC:P.underlying C=some (.struct #[g0,g1,g2,g3,g4,g5]))(q0:g0.offset=0)(q1:g1.offset=1)(q2:g2.offset=2)(q3:g3.offset=3)(q4:g4.offset=4)(q5:g5.offset=5)
  (v0:P.underlying g0.type=some (.int .u8)) (v1:P.underlying g1.type=some .string) (v2:g2.type=T) (v3:g3.type=T) (v4:g4.type=R) (v5:P.underlying g5.type=some (.int .i64)) (d0:P.cellsOf g0.type=1) (d1:P.cellsOf g1.type=1) (cR:P.cellsOf R=1) (d5:P.cellsOf g5.type=1) (bE:P.bytesOf E=56)
  (hR:P.underlying R=some (.slice E)) (cE:P.cellsOf E=3) (B:BT P T Q S) (hc:P.cellsOf Q=1) (hb:P.bytesOf Q=1) (he:P.underlying E=some (.struct #[f0,f1,f2])) (o0:f0.offset=0) (o1:f1.offset=1) (o2:f2.offset=2)
  (t0:f0.type=T) (t2:f2.type=T) (u1:P.underlying f1.type=some .bool) (cT:P.cellsOf T=1) (c1:P.cellsOf f1.type=1)
  {fuel:Nat} {cs:List Value} {x:DataW H×List MemPlace} (hl:cs.length=6) (hf:DataW.trod enc P W 0 (fun _=>true) true fuel C cs=some x) (hw:WOk P C x.1):∃ e:AcE,cs=e.a.cells∧AcOk W e:=by
 obtain⟨xs,n,_,rfl,_,hlen,hff⟩:=DataW.trod_struct hC hf
 match xs,hlen with
 | [y0,y1,y2,y3,y4,y5],_ =>
  have hws:=wstruct6 hC hw;have h0:=hff 0 g0 rfl;have h1:=hff 1 g1 rfl;have h2:=hff 2 g2 rfl;have h3:=hff 3 g3 rfl;have h4:=hff 4 g4 rfl;have h5:=hff 5 g5 rfl;simp only[qd,qc] at h0 h1 h2 h3 h4 h5;rw[q0,d0] at h0;rw[q1,d1] at h1;rw[q2,v2,cT] at h2;rw[q3,v3,cT] at h3;rw[q4,v4,cR] at h4;rw[q5,d5] at h5;rw[v2,v3,v4] at hws;obtain⟨kd,ek,_,hkw⟩:=DataW.trod_int v0 h0;obtain⟨nm,en,_,hnm⟩:=DataW.trod_string v1 h1;obtain⟨s2,l2,e2,t2',b2⟩:=xgj B hc hb h2 hws.1;obtain⟨s3,l3,e3,t3',b3⟩:=xgj B hc hb h3 hws.2.1;obtain⟨y,e4,hr4,hb4⟩:=raws_at hR cE B hc hb he o0 o1 o2 t0 t2 u1 cT c1 h4 hws.2.2;obtain⟨mo,e5,_,_⟩:=DataW.trod_int v5 h5
  have hrl:y.1.n≤140737488351232:=by
   rcases Deep.open_slice hR h4 with⟨hcs,hx⟩ | ⟨a,len,cap,m,k,D,Pl,hcs,_,hl',hm,hmm,hx,hi⟩
   ·rw[e4] at hcs
    simp only[List.cons.injEq,and_true] at hcs
    have:y.1=Sv.nil:=by
     obtain⟨⟨yA,yn,yc⟩,yr⟩:=y;simp only[Sv.v,Value.slice.injEq] at hcs;obtain⟨rfl,rfl,rfl⟩:=hcs;rfl
    rw[this];show 0≤_;omega
   ·rw[e4] at hcs
    simp only[List.cons.injEq,and_true,Sv.v,Value.slice.injEq] at hcs;simp only[if_true] at hmm;subst m;have hd:y4.1=.slice ((List.range len).map D) ((List.range (cap - len)).map fun j=>D (len+j)):=congrArg Prod.fst hx;have hw4:WOk P R y4.1:=hws.2.2;rw[hd] at hw4;have h9:=(xiw hR hw4).1;rw[bE] at h9;simp only[List.length_map,List.length_range,reachBytes] at h9;rw[hcs.2.1];omega
  have hk0:∃ kn:Nat,kd=(kn:Int):=by
   have:0≤kd:=by
    have:=hkw;simp[Lit.wf,IntKind.min,IntKind.max,IntKind.signed,IntKind.bits] at this;omega
   exact⟨kd.toNat,by omega⟩
  obtain⟨kn,rfl⟩:=hk0;refine⟨⟨⟨kn,nm.data.toList,s2,s3,y.1,mo⟩,l2,l3,y.2⟩,?_,t2',?_,t3',hr4,hb4,hrl,?_⟩
  ·match cs,hl with
   | [a0,a1,a2,a3,a4,a5],_ =>
    simp only[List.drop_zero,List.drop_succ_cons,List.take_succ_cons,List.take_zero,List.cons.injEq,and_true] at ek en e2 e3 e4 e5;rw[ek,en,e2,e3,e4,e5];simp[Acv.cells]
  ·have h7:=t2'.len
   have h8:=t2'.cap;show l2.length≤_;omega
  ·show nm.data.toList.length≤maxLen
   rw[Array.length_toList];exact hnm
theorem xve{U C R E T Q S:TypeId}{g0 g1 g2 g3 g4 g5 f0 f1 f2:Field}(hU:P.underlying U=some (.slice C))(cC:P.cellsOf C=6)(bC:P.bytesOf C=104)(hC:P.underlying C=some (.struct #[g0,g1,g2,g3,g4,g5]))(q0:g0.offset=0)(q1:g1.offset=1)(q2:g2.offset=2)(q3:g3.offset=3)(q4:g4.offset=4)(q5:g5.offset=5)
  (v0:P.underlying g0.type=some (.int .u8)) (v1:P.underlying g1.type=some .string) (v2:g2.type=T) (v3:g3.type=T) (v4:g4.type=R) (v5:P.underlying g5.type=some (.int .i64)) (d0:P.cellsOf g0.type=1) (d1:P.cellsOf g1.type=1) (cR:P.cellsOf R=1) (d5:P.cellsOf g5.type=1) (bE:P.bytesOf E=56)
  (hR:P.underlying R=some (.slice E)) (cE:P.cellsOf E=3) (B:BT P T Q S) (hc:P.cellsOf Q=1) (hb:P.bytesOf Q=1) (he:P.underlying E=some (.struct #[f0,f1,f2])) (o0:f0.offset=0) (o1:f1.offset=1) (o2:f2.offset=2)
  (t0:f0.type=T) (t2:f2.type=T) (u1:P.underlying f1.type=some .bool) (cT:P.cellsOf T=1) (c1:P.cellsOf f1.type=1)
  {v:Value} {d:DataW H} {p:List MemPlace} (hv:Value.okWide P W .any base U v) (h:DataW.Trod enc P W 0 (fun _=>true) true U v d p) (hw:WOk P U d):∃ A n c xs,v=.slice A n c∧AcsT W A n c xs∧n≤140737488351232:=by
 obtain⟨A,n,c,rfl⟩:=okWide_slice hU hv;obtain⟨fuel,hf⟩:=h;rcases Deep.open_slice hU hf with⟨hcs,hx⟩ | ⟨a,len,cap,m,k,D,Pl,hcs,_,hl,hm,hmm,hx,hi⟩
 ·simp[Value.cells] at hcs
  obtain⟨rfl,rfl,rfl⟩:=hcs;exact⟨none,0,0,[],rfl,⟨Rd.nil _ _,rfl,Nat.le_refl _,fun x hx=>(by cases hx)⟩,by omega⟩
 ·simp[Value.cells] at hcs
  obtain⟨rfl,rfl,rfl⟩:=hcs;simp only[if_true] at hmm;subst m;rw[cC] at hi;have hd:d=.slice ((List.range n).map D) ((List.range (c - n)).map fun j=>D (n+j)):=congrArg Prod.fst hx;have hws:=xiw hU (by rw[hd] at hw;exact hw)
  obtain⟨f,hfn⟩:=Deep.choose_lt (p:=fun i (e:AcE)=>W.cells? 0 (a.add (i*6)) 6=some e.a.cells∧AcOk W e) (n:=n) (fun i hin=>by
   obtain⟨cs',h1,h2⟩:=hi i (by omega);obtain⟨_,hlen,_⟩:=World.cells?_some h1;obtain⟨e,rfl,h3⟩:=act_at hC q0 q1 q2 q3 q4 q5 v0 v1 v2 v3 v4 v5 d0 d1 cR d5 bE hR cE B hc hb he o0 o1 o2 t0 t2 u1 cT c1 hlen h2 (hws.2 _ (List.mem_map.2 ⟨i,List.mem_range.2 hin,rfl⟩))
   exact⟨e,h1,h3⟩)
  refine⟨some a,n,c,(List.range n).map f,rfl,⟨?_,by simp,hl,fun e he=>?_⟩,?_⟩
  ·have:=xs8 (W:=W) (g:=fun e:AcE=>e.a.cells) (z:=6) (fun e=>Acv.len e.a) (by decide) f (fun i hin=>(hfn i hin).1)
   rw[List.flatMap_map];exact this
  ·obtain⟨i,hi',rfl⟩:=List.mem_map.1 he
   exact(hfn i (List.mem_range.1 hi')).2
  ·have h1:=hws.1
   rw[bC] at h1;simp only[List.length_map,List.length_range,reachBytes] at h1;omega
theorem xvf{U T Q S:TypeId}(hU:P.underlying U=some (.slice T))(cT:P.cellsOf T=1)(B:BT P T Q S)(hc:P.cellsOf Q=1)(hb:P.bytesOf Q=1)
  {v:Value} {d:DataW H} {p:List MemPlace} (hv:Value.okWide P W .any base U v) (h:DataW.Trod enc P W 0 (fun _=>true) true U v d p) (hw:WOk P U d):∃ A n c ls,v=.slice A n c∧TxR 0 W ⟨A,n,c⟩ ls:=by
 obtain⟨A,n,c,rfl⟩:=okWide_slice hU hv;obtain⟨fuel,hf⟩:=h;rcases Deep.open_slice1 hU cT hf with⟨hcs,hx⟩ | ⟨a,len,cap,m,k,V,D,Pl,hcs,_,hl,hm,hmm,hx,hi⟩
 ·simp[Value.cells] at hcs
  obtain⟨rfl,rfl,rfl⟩:=hcs;exact⟨none,0,0,[],rfl,⟨⟨[],Rd.nil _ _,rfl,fun i v l h=>(by cases h)⟩,fun _ _=>Nat.zero_le _,rfl,Nat.le_refl _⟩⟩
 ·simp[Value.cells] at hcs
  obtain⟨rfl,rfl,rfl⟩:=hcs;simp only[if_true] at hmm;subst m;have hd:d=.slice ((List.range n).map D) ((List.range (c - n)).map fun j=>D (n+j)):=congrArg Prod.fst hx;have hws:=xiw hU (by rw[hd] at hw;exact hw)
  obtain⟨f,hfn⟩:=Deep.choose_lt (p:=fun i (y:Sv×LU)=>W.cell? (a.add i)=some y.1.v∧Tx W y.1.A y.1.n y.1.c y.2) (n:=n) (fun i hin=>by
   obtain⟨h1,h2⟩:=hi i (by omega);obtain⟨s,l,ey,h3,_⟩:=xgj B hc hb h2 (hws.2 _ (List.mem_map.2 ⟨i,List.mem_range.2 hin,rfl⟩));simp only[List.cons.injEq,and_true] at ey
   exact⟨(s,l),by rw[h1,ey],h3⟩)
  refine⟨some a,n,c,(List.range n).map fun i=>(f i).2,rfl,⟨⟨(List.range n).map fun i=>(f i).1,fun _=>⟨a,rfl,fun j u hu=>?_⟩,by simp,fun i v l hv hl'=>?_⟩,fun _ _=>Nat.zero_le _,by simp,hl⟩⟩
  ·have hj:j<n:=by
    have:=(List.getElem?_eq_some_iff.1 hu).1;simpa using this
   rw[(hfn j hj).1];simp[hj] at hu;rw[← hu]
  ·have hj:i<n:=by
    have:=(List.getElem?_eq_some_iff.1 hv).1;simpa using this
   simp[hj] at hv hl';subst hv hl';exact⟨(hfn i hj).2,fun _ _=>Nat.zero_le _⟩
theorem open_zs{U E:TypeId}(hU:P.underlying U=some (.slice E))(hE:P.underlying E=some (.int .i64))(cE:P.cellsOf E=1)
  {v:Value} {d:DataW H} {p:List MemPlace} (hv:Value.okWide P W .any base U v) (h:DataW.Trod enc P W 0 (fun _=>true) true U v d p):∃ (A:Option Addr)(n c:Nat)(zs:List Int),v=.slice A n c∧Rd W A (zs.map (Value.int .i64))∧zs.length=n∧∀ z∈zs,-9223372036854775808≤z∧z≤9223372036854775807:=by
 obtain⟨A,n,c,rfl⟩:=okWide_slice hU hv;obtain⟨fuel,hf⟩:=h;rcases open_ints hU hE cE hf with⟨hcs,hx⟩ | ⟨a,len,cap,zs,hcs,_,hl,hm,hz,hx,hcell,hwz⟩
 ·simp[Value.cells] at hcs
  obtain⟨rfl,rfl,rfl⟩:=hcs;exact⟨none,0,0,[],rfl,Rd.nil _ _,rfl,fun z hz=>by cases hz⟩
 ·simp[Value.cells] at hcs
  obtain⟨rfl,rfl,rfl⟩:=hcs;simp only[if_true] at hz;refine⟨some a,n,c,zs.take n,rfl,fun _=>⟨a,rfl,fun j u hu=>?_⟩,by rw[List.length_take];omega,fun z hz'=>i64_wf (hwz z (List.mem_of_mem_take hz'))⟩
  have hj:j<n:=by
   have:=(List.getElem?_eq_some_iff.1 hu).1;simp at this;omega
  have hjz:j<zs.length:=by omega
  rw[hcell j hjz];rw[List.getElem?_map,List.getElem?_take_of_lt hj,List.getElem?_eq_getElem hjz] at hu;simp only[Option.map_some] at hu;rw[← hu];simp[hjz]
theorem keys_bd{U E:TypeId}(hU:P.underlying U=some (.slice E))(bE:P.bytesOf E=32){A:Option Addr}{n c:Nat}{d:DataW H}{p:List MemPlace}(h:DataW.Trod enc P W 0 (fun _=>true) true U (.slice A n c) d p)(hw:WOk P U d):n≤140737488351232:=by
 obtain⟨fuel,hf⟩:=h;rcases Deep.open_slice hU hf with⟨hcs,hx⟩ | ⟨a,len,cap,m,k,D,Pl,hcs,_,hl,hm,hmm,hx,hi⟩
 ·simp[Value.cells] at hcs
  omega
 ·simp[Value.cells] at hcs
  obtain⟨rfl,rfl,rfl⟩:=hcs;simp only[if_true] at hmm;subst m;have hd:d=.slice ((List.range n).map D) ((List.range (c - n)).map fun j=>D (n+j)):=congrArg Prod.fst hx;have h1:=(xiw hU (by rw[hd] at hw;exact hw)).1;rw[bE] at h1;simp only[List.length_map,List.length_range,reachBytes] at h1;omega
end
end Go.Proofs.YtkjjdgnkelchfaaGreat
namespace Go.Proofs.YtkjjdgnkelchfaaGreat
open Go Go.RowKit Go.Proofs.Tryz
def D32.ky(x:D32):Nat:=nOf x.l
section
variable {w w':World}
theorem cmp_p(x y:D32)(w:World):Calls prog 14 #[.agg x.c.toArray,.agg y.c.toArray] w (oB w (iV (cmpZ x.ky y.ky))):=xgq w x y
theorem ins_p(g n c:Nat)(ws:List D32)(sp:List Value)(w:World)(hb:Blk w g 24 (ws.flatMap D32.c++sp))(hn:ws.length=n)(hc:n≤c)(h63:n≤1000000) :
  Calls prog 193 #[.slice (aS g) n c,iV 0,iV n,.func (.func 14) #[] #[]] w fun e w'=>e=.returned (.tuple #[])∧∃ ws',ws'.Perm ws∧Srt D32.ky ws'∧Blk w' g 24 (ws'.flatMap D32.c++sp)∧Fr (· = g) w w':=by
 have HN:=hZ hn;clear hn;have hf:Fr (· = g) w w:=Fr.refl _ _;obtain⟨w0,rfl⟩:=eW w;refine Xay ?_;intro HL;refine Xaz ?_;intro H01;go_enter func193,ntmps193;go_upto_region 0 with fail;refine X12 ?_;refine Xb0 ?_;refine X1a ?_;go_wp2_with fail;clear HL
 go_loopw [8] (fun z wr=>∃ (i:Nat)(ys:List D32),1≤i∧(i≤n∨i=1)∧z=.int .i64 (i:Int)∧ys.Perm ws∧Srt D32.ky (ys.take i)∧Blk wr g 24 (ys.flatMap D32.c++sp)∧Fr (· = g) w0 wr) (fun z _=>(n+1 - intOf z).toNat)
 case atStart=>exact⟨1,ws,Nat.le_refl _,.inr rfl,rfl,.refl _,xsu _ _,hb,hf⟩
 case round=>as_aux_lemma =>
  clear hb hf;obtain⟨i,ys,hi1,hi2,rfl,hp,hs,hb,hf⟩:=hrel;obtain⟨w,rfl⟩:=eW wr;have hyl:ys.length=n:=by rw[hp.length_eq,HN.out]
  have HL:Loc w0 (fun k=>Old w0 k∧¬ k=g) [(g,24,ys.flatMap D32.c++sp)] w:=Loc.of1 hf hb;clear hb hf;by_cases hlt:i<n
  ·have k14:decide ((i:Int)<(n:Int))=true:=by simp;omega
   refine Xb1 ?_;intro HI1;have hil:i<ys.length:=by omega
   have ey:ys=ys.take i++ys[i]::ys.drop (i+1):=by rw[List.getElem_cons_drop,List.take_append_drop]
   have hAl:(ys.take i).length=i:=by rw[List.length_take];omega
   have hCl:(ys.drop (i+1)).length+i+1=n:=by rw[List.length_drop];omega
   generalize ys.take i=A0 at *;generalize ys[i]=x at *;generalize ys.drop (i+1)=CC at *;subst ey;go_upto_region 1 with fail;refine Xb2 ?_;go_upto_region 3 with fail;refine X7v ?_;have hb:=HL.blk (.head _);have hf:=HL.frS;clear HL;go_wp2_with fail
   go_loopw [9] (fun z wr=>∃ (j:Nat)(A B:List D32),z=.int .i64 (j:Int)∧A.length=j∧A.length+B.length=i∧(A++x::(B++CC)).Perm ws∧Srt D32.ky (A++B)∧(∀ y∈B,D32.ky x<D32.ky y)∧Blk wr g 24 ((A++x::(B++CC)).flatMap D32.c++sp)∧Fr (· = g) w0 wr) (fun z _=>(intOf z).toNat)
   case atStart=>exact⟨i,A0,[],rfl,hAl,by simpa using hAl,by simpa using hp,by simpa using hs,(fun y hy=>by cases hy),by simpa using hb,hf⟩
   case round=>as_aux_lemma =>
    clear hb hf hp hs hAl hyl hil A0 hi2;obtain⟨j,A,B,rfl,hAj,hAB,hp,hs,hB,hb,hf⟩:=hrel;obtain⟨w,rfl⟩:=eW wr;have HL:Loc w0 (fun k=>Old w0 k∧¬ k=g) [(g,24,(A++x::(B++CC)).flatMap D32.c++sp)] w:=Loc.of1 hf hb;rcases List.eq_nil_or_concat A with rfl | ⟨A1,y,hA⟩
    ·have e0:j=0:=hAj.symm
     subst e0;have k2:decide ((0:Int)<((0:Nat):Int))=false:=by simp
     have HTK:Hid (Srt D32.ky (([]++x::(B++CC)).take (i+1))):=hZ (xhv [] B CC x D32.ky i (by simpa using hAB) hs hB (fun y hy=>by cases hy));clear hb hf;go_upto_region 4 with fail;refine Xb3 ?_;refine X3v ?_;intro HL;refine Xb5 ?_;refine X8l ?_;refine X8k ?_;refine X8o ?_;refine Xb ?_;go_upto_region 2 with fail;refine Xb8 ?_;go_wp2_with fail;go_roundw
     case rel=>exact⟨i+1,[]++x::(B++CC),by omega,by omega,rfl,hp,HTK.out,HL.blk (.head _),HL.frS⟩
     case measure=>simp[intOf]<;>omega
    ·rw[List.concat_eq_append] at hA
     subst hA;obtain⟨m,hm⟩:∃ m,A1.length=m:=⟨_,rfl⟩;have hj1:j=m+1:=by rw[← hAj];simp[hm]
     subst hj1;have k2:decide ((0:Int)<((m+1:Nat):Int))=true:=by simp
     have HJ1:Hid (((m+1:Nat):Int) - 1=(m:Int)):=hZ (by omega);have eY:A1++[y]++x::(B++CC)=A1++y::x::(B++CC):=by simp
     obtain⟨h1,h2,hg1,hg2,hsw⟩:=xsv (y:=y) (x:=x) (T:=B++CC) hm
     have hjn:m+1<n:=by
      simp only[qp,List.length_singleton,hm] at hAB;omega
     have Hx0:=xcb D32.cl (A1++y::x::(B++CC)) sp (m+1) h2;have Hy0:=xcb D32.cl (A1++y::x::(B++CC)) sp m h1;rw[hg2] at Hx0;rw[hg1] at Hy0;have HS1:=xci D32.cl (A1++y::x::(B++CC)) sp (m+1) y h2;have HS2:=xci D32.cl ((A1++y::x::(B++CC)).set (m+1) y) sp m x (by rw[List.length_set];exact h1);rw[hsw] at HS2;have hjl:(m+1)*32+32≤((A1++y::x::(B++CC)).flatMap D32.c++sp).length:=by rw[List.length_append,xaw D32.cl];have:=h2;omega
     have hml:m*32+32≤(((A1++y::x::(B++CC)).set (m+1) y).flatMap D32.c++sp).length:=by rw[List.length_append,xaw D32.cl,List.length_set];have:=h1;omega
     rw[eY] at HL hb hp;have Hx:=Hx0;have Hy:=Hy0;obtain⟨cz,hcz⟩:∃ cz,cmpZ (D32.ky x) (D32.ky y)=cz:=⟨_,rfl⟩;have CB:∀ u:World,Hid (Calls prog 14 #[.agg x.c.toArray,.agg y.c.toArray] u (oB u (iV cz))):=fun u=>hZ (by rw[← hcz];exact cmp_p x y u)
     clear h1 h2 hg1 hg2 eY;by_cases hxy:D32.ky x<D32.ky y
     ·have k15:decide (cz<0)=true:=by
       rw[← hcz];unfold cmpZ;rw[if_pos hxy];rfl
      clear hb hf;go_upto_region 4 with fail;refine Xb3 ?_;refine X3v ?_;intro HL;refine Xb9 ?_;refine X72 ?_;refine Xij ?_;refine X6 ?_;refine Xik ?_;refine Xbd ?_;refine X6 ?_;refine Xil ?_;refine X6 ?_;refine Xim ?_;refine Xh ?_;intro K hK;refine xhr cf14 rfl rfl _ rfl ?_;refine Xbg ?_;rintro e w ⟨rfl,hb2⟩;replace HL:=HL.next hb2;clear hb2;refine X5v ?_;clear hK K;refine Xbh ?_;have hb:=HL.blk (.head _);have hf:=HL.frS;clear HL Hx0 Hy0;refine Xbi ?_;intro HL;go_upto_region 6 with fail;replace hb:=hb.drew;replace hf:=hf.drew;refine Xbj ?_;intro HL;refine X3u ?_;refine Xbc ?_;refine Xbd ?_;refine X6 ?_;refine Xil ?_;refine X71 ?_;refine Xij ?_;refine Xbk ?_;refine X4 ?_;refine⟨⟨rfl,?_⟩,⟨rfl,?_⟩,trivial⟩
      ·intro K hK
       refine xbj (xbi ag24 _ rfl g (m*32) 24 _ _ rfl hb Hy (D32.cl _)) ?_;refine X3x ?_;clear hK K;refine xbk [13,14,15,16,17] 0 (by kernel_rfl) ?_;refine Xbl ?_;intro K hK;refine xbj (xbi ag24 _ rfl g ((m+1)*32) 24 _ _ rfl hb Hx (D32.cl _)) ?_;refine X3x ?_;clear hK K;refine Xij ?_;refine Xin ?_;intro K hK;intro w2 hb2 hg2 _;rw[HS1] at hb2;have hf2:=hf.grown hg2 (fun k hk=>.inl (by cases hk;rfl));refine Xbo ?_;clear hK K;intro HL2;clear HL hb hf;have HL:=HL2;have hb:=hb2;have hf:=hf2;clear HL2 hb2 hf2;refine Xg ?_;intro K hK;refine xbj (xap sl26 _ _ rfl g n c m .i64 rfl rfl (by omega)) ?_;refine X3y ?_;clear hK K;intro K hK;refine xbe ag24.i _ _ rfl g (m*32) 24 _ _ rfl rfl hb (D32.cl _) hml (D32.c1 _) ?_;intro w2 hb2 hg2 _;rw[HS2] at hb2
       have hf2:=hf.grown hg2 (fun k hk=>.inl (by cases hk;rfl));refine Xbo ?_;clear hK K;intro HL2;clear HL hb hf;have HL:=HL2;have hb:=hb2;have hf:=hf2;clear HL2 hb2 hf2;refine Xa ?_;go_upto_region 5 with fail;refine X12 ?_;refine Xbp ?_;refine X1a ?_;go_wp2_with fail;go_roundw
       case rel=>exact⟨m,A1,y::B,rfl,hm,by simp at hAB ⊢;omega,(xhw A1 (B++CC) x y).trans hp,by simpa using hs,(fun u hu=>by
        rcases List.mem_cons.1 hu with rfl | hu
        ·exact hxy
        ·exact hB u hu),hb,hf⟩
       case measure=>simp[intOf]<;>omega
      ·intro K hK
       refine xbj (xbi ag24 _ rfl g ((m+1)*32) 24 _ _ rfl hb Hx (D32.cl _)) ?_;refine X3x ?_;clear hK K;refine xbk [9,14,15,16,17] 0 (by kernel_rfl) ?_;refine Xbl ?_;intro K hK;refine xbj (xbi ag24 _ rfl g (m*32) 24 _ _ rfl hb Hy (D32.cl _)) ?_;refine X3x ?_;clear hK K;refine Xij ?_;refine Xin ?_;intro K hK;intro w2 hb2 hg2 _;rw[HS1] at hb2;have hf2:=hf.grown hg2 (fun k hk=>.inl (by cases hk;rfl));refine Xbo ?_;clear hK K;intro HL2;clear HL hb hf;have HL:=HL2;have hb:=hb2;have hf:=hf2;clear HL2 hb2 hf2;refine Xg ?_;intro K hK;refine xbj (xap sl26 _ _ rfl g n c m .i64 rfl rfl (by omega)) ?_;refine X3y ?_;clear hK K;intro K hK;refine xbe ag24.i _ _ rfl g (m*32) 24 _ _ rfl rfl hb (D32.cl _) hml (D32.c1 _) ?_;intro w2 hb2 hg2 _;rw[HS2] at hb2
       have hf2:=hf.grown hg2 (fun k hk=>.inl (by cases hk;rfl));refine Xbo ?_;clear hK K;intro HL2;clear HL hb hf;have HL:=HL2;have hb:=hb2;have hf:=hf2;clear HL2 hb2 hf2;refine Xa ?_;go_upto_region 5 with fail;refine X12 ?_;refine Xbp ?_;refine X1a ?_;go_wp2_with fail;go_roundw
       case rel=>exact⟨m,A1,y::B,rfl,hm,by simp at hAB ⊢;omega,(xhw A1 (B++CC) x y).trans hp,by simpa using hs,(fun u hu=>by
        rcases List.mem_cons.1 hu with rfl | hu
        ·exact hxy
        ·exact hB u hu),hb,hf⟩
       case measure=>simp[intOf]<;>omega
     ·have k15:decide (cz<0)=false:=by
       rw[← hcz];unfold cmpZ;rw[if_neg hxy];split<;>rfl
      have HTK:Hid (Srt D32.ky ((A1++y::x::(B++CC)).take (i+1))):=hZ (by
       have h9:=xhv (A1++[y]) B CC x D32.ky i (by simpa using hAB) hs hB (xpf (hs.sublist (List.sublist_append_left _ _)) (Nat.le_of_not_lt hxy))
       simpa using h9)
      clear hb hf;go_upto_region 4 with fail;refine Xb3 ?_;refine X3v ?_;intro HL;refine Xb9 ?_;refine X72 ?_;refine Xij ?_;refine X6 ?_;refine Xik ?_;refine Xbd ?_;refine X6 ?_;refine Xil ?_;refine X6 ?_;refine Xim ?_;refine Xh ?_;intro K hK;refine xhr cf14 rfl rfl _ rfl ?_;refine Xbg ?_;rintro e w ⟨rfl,hb2⟩;replace HL:=HL.next hb2;clear hb2;refine X5v ?_;clear hK K;refine Xbq ?_;go_upto_region 2 with fail;refine Xb8 ?_;go_wp2_with fail;go_roundw
      case rel=>exact⟨i+1,A1++y::x::(B++CC),by omega,by omega,rfl,hp,HTK.out,HL.blk (.head _),HL.frS⟩
      case measure=>simp[intOf]<;>omega
  ·have k14:decide ((i:Int)<(n:Int))=false:=by simp;omega
   go_upto_region 1 with fail;refine Xb2 ?_;go_wp2_with fail
   go_end0
   exact⟨rfl,ys,hp,by rwa [List.take_of_length_le (by omega)] at hs,HL.blk (.head _),HL.frS⟩
theorem pdq_p(g n c:Nat)(ws:List D32)(sp:List Value)(w:World)(hb:Blk w g 24 (ws.flatMap D32.c++sp))(hn:ws.length=n)(hc:n≤c)(h12:n≤12)(r:Int) :
  Calls prog 134 #[.slice (aS g) n c,iV 0,iV n,iV r,.func (.func 14) #[] #[]] w fun e w'=>e=.returned (.tuple #[])∧∃ ws',ws'.Perm ws∧Srt D32.ky ws'∧Blk w' g 24 (ws'.flatMap D32.c++sp)∧Fr (· = g) w w':=by
 have C:=hZ (ins_p g n c ws sp w hb hn hc (by omega));clear hb hn;have H0:Hid ((n:Int) - 0=(n:Int)):=hZ (by omega);have k1:decide ((n:Int)≤12)=true:=by simp;omega
 obtain⟨w0,rfl,HL⟩:=lS w;go_enter func134,ntmps134;go_upto_region 0 with fail;refine X1j ?_;go_upto_region 1 with fail;refine X1j ?_;go_wp2_with fail;refine X9q ?_;rw[rounds_succ];go_upto_region 2 with fail;refine X19 ?_;refine Xbr ?_;refine X1a ?_;go_upto_region 3 with fail;refine X12 ?_;refine Xbs ?_;refine X1z ?_;go_upto_region 4 with fail;refine X9a ?_;intro K hK;refine xad cf193 rfl _ rfl ?_;refine Xbt ?_;rintro e w ⟨rfl,ws',h1,h2,h3,h4⟩;clear HL;refine X20 ?_;clear hK K;go_wp2_with fail;refine Xbu ?_;exact⟨rfl,ws',h1,h2,h3,h4⟩
theorem sort_p(g n c:Nat)(ws:List D32)(sp:List Value)(w:World)(hb:Blk w g 24 (ws.flatMap D32.c++sp))(hn:ws.length=n)(hc:n≤c)(h12:n≤12) :
  Calls prog 84 #[.slice (aS g) n c,.func (.func 14) #[] #[]] w fun e w'=>e=.returned (.tuple #[])∧∃ ws',ws'.Perm ws∧Srt D32.ky ws'∧Blk w' g 24 (ws'.flatMap D32.c++sp)∧Fr (· = g) w w':=by
 have C:=fun r=>hZ (pdq_p g n c ws sp w hb hn hc h12 r)
 clear hb hn;obtain⟨w0,rfl,HL⟩:=lS w;have HB:=hZ (xhq (n:Int) w0 (by omega) (by omega));have hcv:IntKind.u64.wrap (n:Int)=(n:Int):=by rw[IntKind.wrap_u64];omega
 go_enter func84,ntmps84;go_upto_region 0 with fail;refine X12 ?_;refine Xga ?_;refine X1a ?_;go_upto_region 1 with fail;refine X6s ?_;refine Xbw ?_;refine X50 ?_;intro K hK;refine Xbx ?_;rintro e w ⟨r,rfl,rfl⟩;refine X1y ?_;clear hK K;refine X42 ?_;intro K hK;refine xad cf134 rfl _ rfl ?_;refine Xby ?_;rintro e w ⟨rfl,ws',h1,h2,h3,h4⟩;clear HL;refine X20 ?_;clear hK K;go_wp2_with fail
 go_end0
 exact⟨rfl,ws',h1,h2,h3,h4⟩
end
theorem Wys.cut{M:Nat}{Gs:BL}{xs:List Prv}(h:Wys M Gs xs)(i:Nat)(hi:i≤xs.length):∃ (GA GB:BL)(ys zs:List Prv),Gs=GA++GB∧xs=ys++zs∧ys.length=i∧Wys M GA ys∧Wys M GB zs:=by
 induction h generalizing i with
 | nil=>exact⟨[],[],[],[],rfl,rfl,by simp at hi;simp[hi],.nil,.nil⟩
 | @cons Gs G xs x ds h1 h2 hs ih =>
  cases i with
  | zero=>exact⟨[],G++Gs,[],x::xs,rfl,rfl,rfl,.nil,.cons h1 h2 hs⟩
  | succ i =>
   obtain⟨GA,GB,ys,zs,e1,e2,e3,h4,h5⟩:=ih i (by simpa using hi);subst e1 e2;exact⟨G++GA,GB,x::ys,zs,by rw[List.append_assoc],rfl,by simp[e3],.cons h1 h2 h4,h5⟩
abbrev RB(gr gw:Nat)(rest ways:Sv)(xs:List Prv)(Gs:BL):BL:=(gr,199,rdrC rest tagE ways)::(gw,34,xs.flatMap Prv.cells)::(Gs++[])
def WyO(w0:World)(B:BL)(gr gw:Nat)(rest ways:Sv)(n M:Nat)(e:Ending)(w':World):Prop:=∃ (xs':List Prv)(Gs':BL),e=.returned (.tuple #[])∧Wys M Gs' xs'∧xs'.length=n∧Loc w0 (Rest w0 B) (RB gr gw rest ways xs' Gs') w'
section
variable {w w':World}
theorem end_any(gr gw:Nat)(rest:Sv)(n:Nat)(xs:List Prv)(Gs:BL)(M:Nat)(b:Brv)(lo hi:Nat)(w:World)(hW:Wys M Gs xs)(hxl:xs.length=n)(hlh:lo≤hi∧hi≤n)(hn:n≤1000000)
  (H:Loc w (Rest w (RB gr gw rest ⟨aS gw,n,n⟩ xs Gs)) (RB gr gw rest ⟨aS gw,n,n⟩ xs Gs) w) :
  Calls prog 167 #[pG gr,.agg b.cells.toArray,iV lo,iV hi] w (WyO w (RB gr gw rest ⟨aS gw,n,n⟩ xs Gs) gr gw rest ⟨aS gw,n,n⟩ n M):=by
 have HL:=H;clear H;generalize hRD:Rest w (RB gr gw rest ⟨aS gw,n,n⟩ xs Gs)=RD at HL;have HRD:=hZ hRD;have HXL:=hZ hxl;clear hRD hxl;obtain⟨w0,rfl⟩:=eW w;generalize hB0:RB gr gw rest ⟨aS gw,n,n⟩ xs Gs=B0 at HRD ⊢;have HB0:=hZ hB0;clear hB0;go_enter func167,ntmps167;go_upto_region 0 with fail;refine X2s ?_;clear HL;intro g5 w HL;refine X1z ?_;go_upto_region 1 with fail;refine X7v ?_;go_wp2_with fail
 go_loopw [8] (fun z wr=>∃ (i:Nat)(xs':List Prv),lo≤i∧i≤hi∧z=.int .i64 (i:Int)∧xs'.length=n∧Wys M Gs xs'∧Loc w0 RD ((g5,124,b.cells)::RB gr gw rest ⟨aS gw,n,n⟩ xs' Gs) wr) (fun z _=>(hi - intOf z).toNat)
 case atStart=>exact⟨lo,xs,Nat.le_refl _,hlh.1,rfl,HXL.out,hW,HL⟩
 case round =>
  clear HL hW;obtain⟨i,xs',hi1,hi2,rfl,hxl,hW,HL⟩:=hrel;obtain⟨w2,rfl⟩:=eW wr;have HXS:=hZ hxl;clear hxl;by_cases hlt:i<hi
  ·have k2:decide ((i:Int)<(hi:Int))=true:=by simp;omega
   refine Xam ?_;intro HI;have hin:i<n:=by omega
   have hix:i<xs'.length:=by have:=HXS.out;omega
   by_cases hk:b.kind=1
   ·have k4:((b.kind:Int)==1)=true:=by rw[hk];rfl
    have hsp:=xg1 Prv.len xs' [] i 1 (⟨1,b.key,b.val,D32.z,D32.z⟩:Nod).cells (xs'[i].setN ⟨1,b.key,b.val,D32.z,D32.z⟩) hix (by rw[Nod.len];decide) (Prv.s_nod _ _);rw[List.append_nil,List.append_nil] at hsp;have hfit:i*130+1+129≤(xs'.flatMap Prv.cells).length:=by rw[xaw Prv.len,HXS.out];omega
    have hW':=hW.end_ i hix ⟨1,b.key,b.val,D32.z,D32.z⟩;have hl':(xs'.set i (xs'[i].setN ⟨1,b.key,b.val,D32.z,D32.z⟩)).length=n:=by rw[List.length_set];exact HXS.out
    generalize xs'.set i (xs'[i].setN ⟨1,b.key,b.val,D32.z,D32.z⟩)=ys at hsp hW' hl';go_upto_region 2 with fail;refine X19 ?_;refine Xio ?_;refine X1z ?_;go_upto_region 4 with fail;refine Xg0 ?_;refine X6 ?_;refine xaa rfl _ (xao (b:=true) _ _ rfl _ _ rfl rfl k4) ?_;refine X1z ?_;go_upto_region 5 with fail;refine rB (Loc.P HL) [12] [10,12] [0,1,2,3,4,5,6,7,8,9,10,11,12] 0 ?_;refine X3e ?_;intro HL;refine Xip ?_;refine X6 ?_;refine Xiq ?_;refine X3g ?_;refine Xir ?_;refine X6 ?_;refine xab rfl rfl HL (fun W hW=>xav ag24 hW _ rfl _ _ rfl _ _ _ (.head _) (Brv.g_key _) (D32.cl _)) ?_;refine X6 ?_;refine xab rfl rfl HL (fun W hW=>xaf xjp _ rfl _ rfl) ?_;refine X6 ?_;refine xab rfl rfl HL (fun W hW=>xav ag23 hW _ rfl _ _ rfl _ _ _ (.head _) (Brv.g_val _) (D32.cl _)) ?_;refine X6 ?_
    refine xab rfl rfl HL (fun W hW=>xbp bs32 _ rfl _ (by exact bd32_0 _ _)) ?_;refine Xh ?_;intro K hK;refine xbj (xap sl128 _ _ rfl gw n n i .i64 rfl rfl hin) ?_;refine X3x ?_;clear hK K;refine xab rfl rfl HL (fun W hW=>xer fa34_1 _ rfl _ _ rfl) ?_;refine Xh ?_;intro K hK;refine xfg ag32 _ _ rfl HL 2 gw (i*130+1) 34 _ _ _ rfl rfl rfl (Nod.len _) hfit (Nod.one _) hsp ?_;clear HL;intro w3 HL;simp only[qg,qh] at HL;refine Xhb ?_;clear hK K;go_upto_region 3 with fail;refine Xat ?_;go_wp2_with fail;go_roundw
    case rel=>exact⟨i+1,ys,by omega,by omega,rfl,hl',hW',HL⟩
    case measure=>simp[intOf]<;>omega
   ·have k4:((b.kind:Int)==1)=false:=nB (by omega)
    go_upto_region 2 with fail;refine X19 ?_;refine Xio ?_;refine X1z ?_;go_upto_region 4 with fail;refine Xg0 ?_;refine X6 ?_;refine xaa rfl _ (xao (b:=false) _ _ rfl _ _ rfl rfl k4) ?_;refine X1z ?_;go_upto_region 3 with fail;refine Xat ?_;go_wp2_with fail;go_roundw
    case rel=>exact⟨i+1,xs',by omega,by omega,rfl,HXS.out,hW,HL⟩
    case measure=>simp[intOf]<;>omega
  ·have k2:decide ((i:Int)<(hi:Int))=false:=by simp;omega
   go_upto_region 2 with fail;refine X19 ?_;refine Xio ?_;refine X1z ?_;go_wp2_with fail
   go_end0
   exact⟨xs',Gs,rfl,hW,HXS.out,by rw[HRD.out];exact HL.drop _ (sB _ _)⟩
theorem xmo(gr gw:Nat)(rest:Sv)(n:Nat)(xs0:List Prv)(Gs0:BL)(M:Nat)(h:D32)(lo hi:Nat)(w:World)(hW:Wys M Gs0 xs0)(hxl:xs0.length=n)(hlh:lo≤hi∧hi≤n)(hn:n≤1000000)(hM:M≤1000000)
  (H:Loc w (Rest w (RB gr gw rest ⟨aS gw,n,n⟩ xs0 Gs0)) (RB gr gw rest ⟨aS gw,n,n⟩ xs0 Gs0) w) :
  Calls prog 169 #[pG gr,h.a,iV lo,iV hi] w (WyO w (RB gr gw rest ⟨aS gw,n,n⟩ xs0 Gs0) gr gw rest ⟨aS gw,n,n⟩ n (M+1)):=by
 have HL:=H;clear H;generalize hRD:Rest w (RB gr gw rest ⟨aS gw,n,n⟩ xs0 Gs0)=RD at HL;have HRD:=hZ hRD;have HXL:=hZ hxl;clear hRD hxl;obtain⟨w0,rfl⟩:=eW w;generalize hB0:RB gr gw rest ⟨aS gw,n,n⟩ xs0 Gs0=B0 at HRD ⊢;have HB0:=hZ hB0;clear hB0;go_enter func169,ntmps169;go_upto_region 0 with fail;refine X2s ?_;clear HL;intro g5 w HL;refine X1z ?_;go_upto_region 1 with fail;refine X7v ?_;go_wp2_with fail
 go_loopw [8] (fun z wr=>∃ (i:Nat)(ys zs:List Prv)(GY GZ:BL),lo≤i∧i≤hi∧z=.int .i64 (i:Int)∧ys.length=i∧ys.length+zs.length=n∧Wys (M+1) GY ys∧Wys M GZ zs∧Loc w0 RD ((g5,23,h.c)::RB gr gw rest ⟨aS gw,n,n⟩ (ys++zs) (GY++GZ)) wr) (fun z _=>(hi - intOf z).toNat)
 case atStart =>
  obtain⟨GY,GZ,ys,zs,e1,e2,e3,h4,h5⟩:=hW.cut lo (by have:=HXL.out;omega);subst e1 e2;exact⟨lo,ys,zs,GY,GZ,Nat.le_refl _,hlh.1,rfl,e3,by have:=HXL.out;rw[List.length_append] at this;exact this,h4.mono (by omega),h5,HL⟩
 case round =>
  clear HL hW;obtain⟨i,ys,zs,GY,GZ,hi1,hi2,rfl,hyl,hxl,hWY,hWZ,HL⟩:=hrel;obtain⟨w2,rfl⟩:=eW wr;have HYL:=hZ hyl;have HXS:=hZ hxl;clear hyl hxl;by_cases hlt:i<hi
  ·have k2:decide ((i:Int)<(hi:Int))=true:=by simp;omega
   refine Xam ?_;intro HI;have hin:i<n:=by omega
   cases hWZ with
   | nil=>exfalso;have h1:=HXS.out;have h2:=HYL.out;simp only[qs] at h1;omega
   | @cons GZ' G zs' x ds hG hm hs =>
    have hlen:(ys++x::zs').length=n:=by rw[List.length_append];exact HXS.out
    have hix:i<(ys++x::zs').length:=by omega
    have hxi:(ys++x::zs')[i]=x:=by
     have e:=HYL.out;subst e;simp
    have hget:=xii Prv.len (ys++x::zs') [] i 0 hix (by decide);rw[List.append_nil,hxi,Prv.g_sides,Nat.add_zero] at hget;have hfit:i*130<((ys++x::zs').flatMap Prv.cells).length:=by rw[xaw Prv.len,hlen];omega
    go_upto_region 2 with fail;refine X19 ?_;refine Xio ?_;refine X1z ?_;have HX:Loc w0 RD (((g5,23,h.c)::(gr,199,rdrC rest tagE ⟨aS gw,n,n⟩)::(gw,34,(ys++x::zs').flatMap Prv.cells)::GY)++(G++(GZ'++[]))) w2:=by simpa[RB,List.append_assoc] using HL
    clear HL;refine Xis ?_;intro HL;go_upto_region 4 with fail;refine rB (Loc.P HL) [18] [14,15,16,18] [0,1,2,3,4,5,6,7,8,9,10,11,12,13,14,15,16,17,18] 0 ?_;refine X3e ?_;intro HL;refine Xip ?_;refine X6 ?_;refine Xiq ?_;refine X71 ?_;refine X3d ?_;refine Xip ?_;refine X6 ?_;refine Xiq ?_;refine X3g ?_;refine xab rfl rfl HL (fun W hW=>xap sl128 _ _ rfl gw n n i .i64 rfl rfl hin) ?_;refine X6 ?_;refine xab rfl rfl HL (fun W hW=>xer xqs _ rfl _ _ rfl) ?_;refine X6 ?_;refine xab rfl rfl HL (fun W hW=>xai sc29 hW _ rfl _ _ rfl _ _ _ (.tail _ (.tail _ (.head _))) hget) ?_;refine X6 ?_;refine X5s ?_;refine Xh ?_;intro K hK;refine xcc sl29 el23 (by decide) _ rfl HX.drew _ rfl (D32.cl _) ?_;clear HX HL;intro g29 w HX;refine Xis ?_;intro HL;refine X3y ?_;clear hK K;intro K hK
    refine xan sl29 el23 _ _ rfl ((g29,23,h.c)::((g5,23,h.c)::(gr,199,rdrC rest tagE ⟨aS gw,n,n⟩)::(gw,34,(ys++x::zs').flatMap Prv.cells)::GY)) _ x.sides _ hG HX rfl ⟨g29,0,none⟩ 1 1 h.c rfl (Rd.of_blk0 (es:=[]) (by simpa using HX.blk (.head _))) (D32.cl _) (D32.c1 _) (by omega) (by omega) (by omega) ?_;clear HX HL;intro sv' G' w hG' HX;refine Xis ?_;intro HL;refine X3y ?_;clear hK K;intro K hK;refine xbj (xap sl128 _ _ rfl gw n n i .i64 rfl rfl hin) ?_;refine X3x ?_;clear hK K;refine xab rfl rfl HL (fun W hW=>xer xqs _ rfl _ _ rfl) ?_;refine Xh ?_;intro K hK;have hset:=fm_set Prv.len (ys++x::zs') [] i 0 sv'.v ({x with sides:=sv'}:Prv) hix (by decide) (by rw[hxi];exact Prv.s_sides _ _);rw[List.append_nil,List.append_nil,Nat.add_zero] at hset
    have hys:(ys++x::zs').set i ({x with sides:=sv'}:Prv)=ys++({x with sides:=sv'}:Prv)::zs':=by
     have e:=HYL.out;subst e;simp
    rw[hys] at hset;refine xt8 sc29 _ _ rfl HX 3 gw (i*130) 34 _ _ sv'.v rfl rfl rfl rfl hfit hset ?_;clear HX HL;intro w HX;simp only[qg,qh,qm] at HX;refine Xhb ?_;clear hK K;go_upto_region 3 with fail;refine Xat ?_;go_wp2_with fail;go_roundw
    case rel =>
     refine⟨i+1,ys++[({x with sides:=sv'}:Prv)],zs',GY++G',GZ',by omega,by omega,rfl,by rw[List.length_append,HYL.out];rfl,?_,?_,hs,?_⟩
     ·have h1:=HXS.out
      simp only[qp,qr,qs] at h1 ⊢;omega
     ·have h2:Wys (M+1) (G'++[]) [({x with sides:=sv'}:Prv)]:=.cons (ds:=ds++[h]) (by rw[List.length_append,List.flatMap_append];simpa using hG') (by rw[List.length_append];simp only[qr,qs];omega) .nil
      rw[List.append_nil] at h2;exact hWY.app h2
     ·have HL2:=HX.drop _ (sB _ _)
      simpa[RB,List.append_assoc] using HL2
    case measure=>simp[intOf]<;>omega
  ·have k2:decide ((i:Int)<(hi:Int))=false:=by simp;omega
   go_upto_region 2 with fail;refine X19 ?_;refine Xio ?_;refine X1z ?_;go_wp2_with fail
   go_end0
   exact⟨ys++zs,GY++GZ,rfl,hWY.app (hWZ.mono (by omega)),by rw[List.length_append];exact HXS.out,by rw[HRD.out];exact HL.drop _ (sB _ _)⟩
end
end Go.Proofs.YtkjjdgnkelchfaaGreat
