import Derived.Test.YtkjjdgnkelchfaaGreatPNU23
set_option linter.unusedSimpArgs false
set_option linter.unusedVariables false
set_option maxRecDepth 100000
set_option maxHeartbeats 16000000
namespace Go.Proofs.YtkjjdgnkelchfaaGreat
open Go Go.RowKit Go.Proofs.Tryz
theorem Fr.to_below'{g n:Nat}{a b:World}(h:Fr (· = g) a b)(hg:n≤g)(hn:n≤a.heap.size):Below n a b :=
 ⟨h.os,h.tape,h.output,h.size,fun k hk=>h.block k (by omega) (fun e=>by omega)⟩
theorem kfm_ne{ks:List D32}(h:ks≠[]):ks.flatMap D32.c≠[]:=fun e=>h (List.eq_nil_of_length_eq_zero (by
 have:=congrArg List.length e;rw[xaw D32.cl,List.length_nil] at this
 omega))
theorem Addr.add_zero'(ad:Addr):ad.add 0=ad:=by
 obtain⟨b,o,x⟩:=ad;unfold Addr.add
 split<;>simp_all
theorem xrs(w:World):Calls prog 85 #[.slice none 0 0] w fun e w'=>e=.returned (.slice none 0 0)∧w=w':=by
 have k1:decide (((0:Nat):Int)<2)=true:=by decide
 obtain⟨w0,rfl,HL⟩:=lS w;go_enter func85,ntmps85;go_upto_region 0 with fail;refine X1j ?_;go_upto_region 1 with fail;refine Xjx ?_;refine X6 ?_;refine Xgj ?_;refine X1z ?_;go_upto_region 2 with fail;refine X7v ?_;go_wp2_with fail;go_ret;exact⟨rfl,rfl⟩
theorem xth{D:Nat→Prop}{gs:Nat}{σ:Sb}{z:Int}{d:Nat}{t:Tre}{u:World}(hu:StW D u gs σ)(ht:IsT σ z d t):Calls prog 83 #[pG gs,iV z] u (oB u t.dg.a):=by
 by_cases hz:z=0
 ·subst hz
  rw[ht.zero];exact xfz hu
 ·obtain⟨i,hi,hzi,hc,hd,_⟩:=ht.nz hz
  rw[← hd];exact xfi hu z σ.slots[i].nd σ.slots[i].val (.inl ⟨rfl,i,hzi,hi,rfl,rfl,hc⟩)
def KysO(w:World)(ds:List D32)(e:Ending)(w':World):Prop:=∃ (sv:Sv)(ks:List D32),e=.returned (.tuple #[sv.v,iV 0])∧KyS w' sv.A sv.n sv.c ks∧RisK ks∧(∀ k,k∈ks↔k∈ds)∧ks.length≤ds.length∧(∀ ad,sv.A=some ad→w.heap.size≤ad.block)∧Bw w w'
theorem TxR.one{N:Nat}{w:World}{sv:Sv}{ds:List D32}(h:TxR N w sv (ds.map D32.l))(i:Nat)(hi:i<ds.length):∃ ad s,sv.A=some ad∧Rd w (some (ad.add (i*1))) [Sv.v s]∧Tx w s.A s.n s.c ds[i].l:=by
 obtain⟨ad,s,h1,_,h2,h3,_⟩:=h.at_ i (by rw[List.length_map];exact hi);rw[show(ds.map D32.l).getD i []=ds[i].l by simp[List.getD,hi]] at h3;exact⟨ad,s,h1,h2,h3⟩
section
variable {w w':World}
theorem xmr(N:Nat)(sv:Sv)(ds:List D32)(hT:TxR N w sv (ds.map D32.l))(h8:ds.length≤8):Calls prog 31 #[sv.v] w (KysO w ds):=by
 have HT:=hZ hT;have hn:sv.n=ds.length:=by have:=hT.len;rw[List.length_map] at this;exact this.symm
 obtain⟨n,hn2⟩:∃ n,sv.n=n:=⟨_,rfl⟩;have HN:Hid (sv.n=n):=hZ hn2;have HDN:Hid (ds.length=n):=hZ (by omega);have h8n:n≤8:=by omega
 clear hT hn hn2 h8;obtain⟨w0,rfl,HL⟩:=lS w;go_enter func31,ntmps31;go_upto_region 0 with fail;refine X2y ?_;go_upto_region 1 with fail;refine X1j ?_;go_upto_region 2 with fail;refine X12 ?_;refine xaa rfl _ (xam underlying50 _ rfl sv n rfl HN.out) ?_;refine X1e ?_;go_wp2_with fail
 go_loopw [4,11] (fun v z wr=>∃ (i:Nat)(G:BL)(so:Sv),v=so.v∧z=.int .i64 (i:Int)∧i≤n∧Gw 24 32 G so i ((ds.take i).flatMap D32.c)∧Loc w0 (Old w0) (G++[]) wr) (fun _ z _=>(n - intOf z).toNat)
 case atStart=>exact⟨0,[],Sv.nil,rfl,rfl,Nat.zero_le _,Gw.nil 24 32,HL⟩
 case round=>as_aux_lemma =>
  clear HL;obtain⟨i,G,so,rfl,rfl,hin,hG,HL⟩:=hrel;obtain⟨w,rfl⟩:=eW wr;by_cases hlt:i<n
  ·have k3:decide ((i:Int)<(n:Int))=true:=by simp;omega
   refine Xb1 ?_;intro HI1;have hix:i<ds.length:=by rw[HDN.out];exact hlt
   obtain⟨ad,s,hA,hr1,htx⟩:=HT.out.one i hix;have HSV:Hid (sv.v=.slice (some ad) n sv.c):=hZ (by obtain⟨vA,vn,vc⟩:=sv;have h1:=HN.out;simp only at hA h1;rw[Sv.v,hA,h1]);have HRD:Hid (Rd w (some (ad.add (i*1))) [Sv.v s]):=hZ (hr1.below HL.below);have HTX:Hid (Tx w s.A s.n s.c ds[i].l):=hZ (htx.below HL.below);have HTK:Hid ((ds.take (i+1)).flatMap D32.c=(ds.take i).flatMap D32.c++ds[i].c):=hZ (by rw[List.take_succ_eq_append_getElem hix,List.flatMap_append];simp);obtain⟨x,hx⟩:∃ x,ds[i]=x:=⟨_,rfl⟩;rw[hx] at HTX HTK;have HS32:Hid (s.n=32):=hZ (by have:=HTX.out.len;have:=x.h;omega);clear hx hA hr1 htx;go_upto_region 3 with fail;refine Xt ?_;refine Xap ?_;refine X1z ?_;go_upto_region 4 with fail;refine Xt ?_;refine xaa rfl _ (xaz sl50 (.tmp 9) _ rfl ad n sv.c i .i64 HSV.out rfl hlt) ?_;refine X6 ?_
   refine Xk0 ?_;refine X1a ?_;have CO:∀ u,Bw w u→Hid (Calls prog 40 #[s.v] u (oB u (.tuple #[x.a,iV 0]))):=fun u hu=>hZ (of_d u s.A s.n s.c x (HTX.out.below hu).rd HS32.out HTX.out.cap)
   go_upto_region 5 with fail;refine X1v ?_;intro K hK;refine Xf0 ?_;refine X1w ?_;(with_reducible refine((CO _ (Below.refl _ _)).out).mono ?_);refine X4a ?_;clear hK K;intro w HL;refine Xfc ?_;clear HL;intro g7 w HL;go_upto_region 6 with fail;refine Xew ?_;go_upto_region 8 with fail;refine X12 ?_;refine X6x ?_;refine X6 ?_;refine xb2 sl26 el24 (by decide) rfl _ rfl HL _ rfl (D32.cl _) ?_;clear HL;intro g25 w HL;refine X50 ?_;intro K hK;refine xan sl26 el24 _ _ rfl [_,_] i so _ hG HL rfl ⟨g25,0,none⟩ 1 1 x.c rfl (Rd.of_blk0 (es:=[]) (by rw[List.append_nil];exact HL.blk (.head _))) (D32.cl _) (D32.c1 _) (by decide) (by omega) (by omega) ?_;clear HL hG;intro so' G' w hG HL;refine Xcw ?_;clear hK K;intro HLd;clear HL;have HL:=HLd;clear HLd;go_upto_region 9 with fail;refine Xt ?_;refine Xb6 ?_;refine X1e ?_;go_wp2_with fail;go_roundw
   case rel=>exact⟨i+1,G',so',rfl,rfl,by omega,by rw[HTK.out];exact hG,HL⟩
   case measure=>simp[intOf]<;>omega
  ·have k3:decide ((i:Int)<(n:Int))=false:=by simp;omega
   have hie:i=n:=by omega
   subst hie;have k10:decide ((64:Int)<(i:Int))=false:=by simp;omega
   rw[List.take_of_length_le (by rw[HDN.out];exact Nat.le_refl _)] at hG;go_upto_region 3 with fail;refine Xt ?_;refine Xap ?_;refine X1z ?_;go_upto_region 10 with fail;refine X12 ?_;refine xaa rfl _ (xam underlying50 _ rfl sv i rfl HN.out) ?_;refine X6 ?_;refine Xk1 ?_;have HB:=hZ HL.below;obtain⟨hGl,⟨rfl,rfl,h0⟩ | ⟨g,cap,tl,rfl,rfl,hc1,hc2,hc3⟩⟩:=hG
   ·have hds:ds = []:=List.eq_nil_of_length_eq_zero (by rw[HDN.out];exact h0)
    subst hds;clear HL;have HL:=Loc.start w;have CS0:Hid (Calls prog 84 #[Sv.nil.v,.func (.func 14) #[] #[]] w fun e w'=>e=.returned (.tuple #[])∧w=w'):=hZ (sort0_p w);go_upto_region 12 with fail;refine X1v ?_;intro K hK;refine xad cf84 rfl _ rfl ?_;refine X1w ?_;(with_reducible refine(CS0.out).mono ?_);rintro e w ⟨rfl,rfl⟩;refine X20 ?_;clear hK K;have CK:Hid (Calls prog 85 #[Sv.nil.v] w fun e w'=>e=.returned (.slice none 0 0)∧w=w'):=hZ (xrs w);go_upto_region 13 with fail;refine X1v ?_;intro K hK;refine xad cf85 rfl _ rfl ?_;refine Xk2 ?_;rintro e w ⟨rfl,rfl⟩;refine X5k ?_;clear hK K;refine X1f ?_;go_wp2_with fail;go_ret2;exact⟨Sv.nil,[],rfl,⟨Rd.nil _ _,rfl,Nat.le_refl _⟩,List.Pairwise.nil,fun k=>Iff.rfl,Nat.le_refl _,fun ad e=>(by cases e),HB.out⟩
   ·have hgn:w0.heap.size≤g:=Nat.le_of_not_lt (HL.own _ (.head _)).1
    have hblk:Blk w g 24 (ds.flatMap D32.c++tl):=HL.blk (.head _);have CS:Hid (Calls prog 84 #[Sv.v ⟨aS g,i,cap⟩,.func (.func 14) #[] #[]] w fun e w'=>e=.returned (.tuple #[])∧∃ ws',ws'.Perm ds∧Srt D32.ky ws'∧Blk w' g 24 (ws'.flatMap D32.c++tl)∧Fr (· = g) w w'):=hZ (sort_p g i cap ds tl w hblk HDN.out hc1 (by omega));clear HL;have HL:=Loc.start w;go_upto_region 12 with fail;refine X1v ?_;intro K hK;refine xad cf84 rfl _ rfl ?_;refine Xco ?_;rintro e w ⟨rfl,ys,hp,hs,hb2,hf2⟩;have HS2:=hZ (And.intro hp hs);have HF2:Hid (Bw w0 w):=hZ (HB.out.trans (hf2.to_below' hgn HB.out.size))
    have CK:Hid (Calls prog 85 #[Sv.v ⟨aS g,i,cap⟩] w fun e w'=>∃ (m:Nat)(sp':List Value),e=.returned (.slice (aS g) m cap)∧m≤i∧Blk w' g 24 ((ddN ys i).flatMap D32.c++sp')∧(ddN ys i).length=m∧Fr (· = g) w w'):=hZ (xvj g i cap ys tl w hb2 (by rw[hp.length_eq,HDN.out]) hc1 (by omega));clear hp hs hb2 hf2 HL;have HL:=Loc.start w;refine X20 ?_;clear hK K;go_upto_region 13 with fail;refine X1v ?_;intro K hK;refine xad cf85 rfl _ rfl ?_;refine Xk2 ?_;rintro e w ⟨m,sp',rfl,hm1,hb3,hm2,hf3⟩;have HQ:=hZ (And.intro hm1 (And.intro hb3 hm2));have HF3:Hid (Bw w0 w):=hZ (HF2.out.trans (hf3.to_below' hgn HF2.out.size));clear hm1 hb3 hm2 hf3 HL;have HL:=Loc.start w;refine X5k ?_;clear hK K;refine X1f ?_;go_wp2_with fail;go_ret2;have hyl:ys.length=i:=by rw[HS2.out.1.length_eq,HDN.out]
    obtain⟨r1,r2⟩:=ddN_ok ys HS2.out.2 i (by omega);refine⟨⟨aS g,m,cap⟩,ddN ys i,rfl,⟨Rd.of_blk0 HQ.out.2.1,HQ.out.2.2,Nat.le_trans HQ.out.1 hc1⟩,r1,fun k=>?_,by rw[HQ.out.2.2,HDN.out];exact HQ.out.1,fun ad e=>(by cases e;exact hgn),HF3.out⟩;rw[r2,List.take_of_length_le (by omega)];exact HS2.out.1.mem_iff
end
section
variable {D:Nat→Prop}{w w':World}{gd gs g:Nat}{σ:Sb}{vs vf:Sv}{root:Int}
theorem dc_store{nm:Value}(h:DcP D w gd gs g σ vs vf nm root):Calls prog 86 #[pG gd] w fun e w'=>e=.returned (pG gs)∧w=w':=by
 have HH:=hZ h;have hc1:=h.c1;clear h;have HL:=Loc.start w;go_enter func86,ntmps86;go_upto_region 0 with fail;refine X1j ?_;go_upto_region 1 with fail;refine Xey ?_;intro K hK;refine Xf2 ?_;rintro e w ⟨rfl,rfl⟩;refine X20 ?_;clear hK K;go_upto_region 3 with fail;refine Xf4 ?_;refine X6 ?_;refine Xf5 ?_;refine X1a ?_;go_wp2_with fail;go_ret;exact⟨rfl,rfl⟩
theorem xvm(h:StW D w gs σ)(z:Int)(n:Nd)(val:LU)(hG:Got σ z n val true)(hk:n.kind=1):Calls prog 137 #[pG gs,iV z] w (oB w (.agg (⟨1,n.key,n.hash,D32.z,D32.z⟩:Nod).cells.toArray)):=by
 have HH:=hZ h;have HG:=hZ hG;have k3:((n.kind:Int)==1)=true:=by rw[hk];rfl
 clear h hG hk;obtain⟨w0,rfl,HL⟩:=lS w;go_enter func137,ntmps137;go_upto_region 0 with fail;refine Xt ?_;refine xah zr32 rfl rfl HL ?_;clear HL;intro g4 w HL;refine X1z ?_;go_upto_region 1 with fail;refine X4h ?_;intro K hK;(with_reducible refine(xfy (HH.out.below HL.below) z n val true HG.out).mono ?_);refine X4j ?_;clear hK K;intro g5 w HL;go_upto_region 2 with fail;refine X4l ?_;refine X1z ?_;go_upto_region 3 with fail;refine Xt ?_;refine xaa rfl _ (xao (b:=true) _ _ rfl _ _ rfl rfl k3) ?_;refine X1a ?_;go_upto_region 4 with fail;refine X4r ?_;refine X4s ?_;refine X6 ?_;refine xaa rfl _ (xaf fa230_5 _ rfl _ rfl) ?_;refine X6 ?_;refine xaa rfl _ (xav ag23 HL _ rfl _ _ rfl _ _ _ (.head _) (Nd.g_hash _) (D32.cl _)) ?_;refine X6 ?_
 refine xaa rfl _ (xbp bs32 _ rfl _ (by exact bd32_0 _ _)) ?_;refine X6 ?_;refine xbo ag32 rfl _ _ rfl HL 1 _ _ _ _ rfl rfl rfl (Nod.len _) (Nod.len _) (Nod.one _) ?_;refine X34 ?_;clear HL;intro w HL;go_wp2_with fail;refine Xc ?_;refine bodyPost_ret (xb8 rfl ag32 _ _ g4 32 _ rfl (HL.blk (.tail _ (.head _))) (Nod.len _)) rfl ?_;exact⟨rfl,HL.below⟩
end
theorem bdq_1(k v:D32):Instr.fill (fun x=>[(0,1),(1,32),(33,32),(65,32)].toArray[x]?) Brv.z.cells.toArray [(0,Value.int .u8 1),(1,.agg k.c.toArray),(2,.agg v.c.toArray)]=some ((⟨1,k,v,D32.z⟩:Brv)).cells.toArray:=by
 rw[show Brv.z=(⟨0,D32.z,D32.z,D32.z⟩:Brv) from rfl];refine xaj (vs:=[Value.int .u8 1]) rfl (rfl) (rfl) (by rw[Brv.len];decide) ?_;rw[xbg _ _ _ (by rw[Brv.len];decide)];rw[show(⟨0,D32.z,D32.z,D32.z⟩:Brv).cells.set 0 (Value.int .u8 1)=(⟨1,D32.z,D32.z,D32.z⟩:Brv).cells from Brv.s_kind (⟨0,D32.z,D32.z,D32.z⟩:Brv) (1)];refine xaj (vs:=k.c) rfl (rfl) (D32.cl _) (by rw[Brv.len];decide) ?_;rw[show splice (⟨1,D32.z,D32.z,D32.z⟩:Brv).cells 1 k.c=(⟨1,k,D32.z,D32.z⟩:Brv).cells from Brv.s_key (⟨1,D32.z,D32.z,D32.z⟩:Brv) k];refine xaj (vs:=v.c) rfl (rfl) (D32.cl _) (by rw[Brv.len];decide) ?_;rw[show splice (⟨1,k,D32.z,D32.z⟩:Brv).cells 33 v.c=(⟨1,k,v,D32.z⟩:Brv).cells from Brv.s_val (⟨1,k,D32.z,D32.z⟩:Brv) v];rfl
def GrO(w:World)(G:BL)(bs:List Brv)(e:Ending)(w':World):Prop:=∃ (sv':Sv)(G':BL),e=.returned sv'.v∧Gw 124 97 G' sv' bs.length (bs.flatMap Brv.cells)∧(∀ x∈G',Blk w' x.1 x.2.1 x.2.2∧((∃ y∈G,y.1=x.1)∨w.heap.size≤x.1))∧Fr (fun k=>∃ y∈G,y.1=k) w w'
theorem Gw.pw{E z n:Nat}{G:BL}{v:Sv}{xs:List Value}(h:Gw E z G v n xs):G.Pairwise fun x y=>x.1≠y.1:=by
 obtain⟨_,⟨rfl,_⟩ | ⟨g,cap,tl,rfl,_⟩⟩:=h
 ·exact List.Pairwise.nil
 ·exact List.pairwise_singleton _ _
theorem Loc.regrow{w0 w w':World}{D:Nat→Prop}{G1 G2:BL}(H:Loc w0 D (G1++[]) w)(hf:Fr (fun k=>∃ y∈G1,y.1=k) w w')(h2:∀ x∈G2,Blk w' x.1 x.2.1 x.2.2∧((∃ y∈G1,y.1=x.1)∨w.heap.size≤x.1))(hp:G2.Pairwise fun x y=>x.1≠y.1):Loc w0 D (G2++[]) w':=by
 rw[List.append_nil] at H ⊢
 have hn:∀ k,(∃ y∈G1,y.1=k)→¬ D k:=by
  rintro k ⟨y,hy,rfl⟩;exact(H.own y hy).1
 refine⟨H.fr.trans ⟨hf.os,hf.tape,hf.output,hf.size,fun k hk h=>hf.block k hk (fun t=>h (hn k t))⟩,fun x hx=>⟨?_,(h2 x hx).1⟩,hp,H.old⟩;rcases (h2 x hx).2 with h | h
 ·exact hn _ h
 ·intro hd
  have:=H.lt hd;omega
theorem StW.lt{D:Nat→Prop}{w:World}{gs:Nat}{σ:Sb}(h:StW D w gs σ):∀ k,D k→k<w.heap.size:=by
 obtain⟨g,vs,vf,h⟩:=h;exact h.sb.lt
structure SkI (D:Nat→Prop)(w:World)(gs:Nat)(σ:Sb)(z:Int)(d:Nat)(t:Tre)(A:Option Addr)(n c:Nat)(ks:List D32)(sv:Sv)(G:BL)(bs:List Brv):Prop where
 st:StW D w gs σ
 it:IsT σ z d t
 ok:t.Ok d
 ky:KyS w A n c ks
 kg:ks≠[]→∀ ad,A=some ad→∀ x∈G,x.1≠ad.block
 gw:Gw 124 97 G sv bs.length (bs.flatMap Brv.cells)
 gb:∀ x∈G,Blk w x.1 x.2.1 x.2.2
 gd:∀ x∈G,¬ D x.1
 n8:n≤8
 bl:bs.length+(skT t ks d).length≤1000000
section
variable {D:Nat→Prop}{w w':World}{gs:Nat}{σ:Sb}{z:Int}{d:Nat}{t:Tre}{A:Option Addr}{n c:Nat}{ks:List D32}{sv:Sv}{G:BL}{bs:List Brv}
theorem SkI.loc(h:SkI D w gs σ z d t A n c ks sv G bs):Loc w (fun k=>Old w k∧¬ ∃ y∈G,y.1=k) (G++[]) w:=by
 have:=(Loc.start w).adopt (fun k=>∃ y∈G,y.1=k) G (fun x hx=>⟨⟨x,hx,rfl⟩,h.gb x hx⟩) h.gw.pw;simpa using this
theorem SkI.sts(h:SkI D w gs σ z d t A n c ks sv G bs){L:BL}(H:Loc w (fun k=>Old w k∧¬ ∃ y∈G,y.1=k) L w'):StW D w' gs σ :=
 h.st.fr H.frS fun k hk ⟨y,hy,e⟩=>h.gd y hy (by rw[e];exact hk)
theorem SkI.kys(h:SkI D w gs σ z d t A n c ks sv G bs){L:BL}(H:Loc w (fun k=>Old w k∧¬ ∃ y∈G,y.1=k) L w'):KyS w' A n c ks :=
 ⟨h.ky.rd.keepE H (fun hne ad e=>⟨h.ky.rd.lt hne e,fun⟨y,hy,e2⟩=>h.kg (by rintro rfl;exact hne rfl) ad e y hy e2⟩),h.ky.len,h.ky.cap⟩
theorem GrO.of{S0:World}{bs':List Brv}{sv':Sv}{G':BL}{v:Value}(hv:v=sv'.v)(hG:Gw 124 97 G' sv' bs'.length (bs'.flatMap Brv.cells))(H:Loc S0 (fun k=>Old S0 k∧¬ ∃ y∈G,y.1=k) (G'++[]) w'):GrO S0 G bs' (.returned v) w':=by
 refine⟨sv',G',by rw[hv],hG,fun x hx=>⟨(H.own x (by simp[hx])).2,?_⟩,H.frS⟩;by_cases h1:∃ y∈G,y.1=x.1
 ·exact .inl h1
 ·exact .inr (Nat.le_of_not_lt fun hlt=>(H.own x (by simp[hx])).1 ⟨hlt,h1⟩)
theorem xrt:∀ (t:Tre) (D:Nat→Prop) (w:World) (gs:Nat) (σ:Sb) (z:Int) (d:Nat)(A:Option Addr)(n c:Nat)(ks:List D32)(sv:Sv)(G:BL)(bs:List Brv),SkI D w gs σ z d t A n c ks sv G bs →
  Calls prog 87 #[sv.v,pG gs,iV z,.slice A n c,iV d] w (GrO w G (bs++skT t ks d)):=by
 intro t
 induction t with
 | nil=>as_aux_lemma =>
  intro D w gs σ z d A n c ks sv G bs h;have hz:z=0:=h.it;subst hz;have HL:=h.loc;have HH:=hZ h;have hG:=h.gw;have hbl:bs.length+1≤1000000:=h.bl;have HGN:Hid ((bs++[Brv.z]).flatMap Brv.cells=bs.flatMap Brv.cells++Brv.z.cells):=hZ (by simp);clear h;obtain⟨w0,rfl⟩:=eW w;go_enter func87,ntmps87;go_upto_region 0 with fail;refine X1j ?_;go_upto_region 1 with fail;refine Xfm ?_;refine X1a ?_;go_upto_region 2 with fail;refine X12 ?_;refine xaa rfl _ (xpa xi7 rfl) ?_;refine X6 ?_;refine xb2 sl42 xg0 (by decide) rfl _ rfl HL _ rfl (Brv.len _) ?_;clear HL;intro g20 w HL;refine X50 ?_;intro K hK
  refine xan sl42 xg0 _ _ rfl [_] bs.length sv _ hG HL rfl ⟨g20,0,none⟩ 1 1 Brv.z.cells rfl (Rd.of_blk0 (es:=[]) (by rw[List.append_nil];exact HL.blk (.head _))) (Brv.len _) (Brv.one _) (by decide) (by omega) (by omega) ?_;clear HL hG;intro sv' G' w hG HL;have HLd:=HL.drop (G'++[]) (sA [_] _);clear HL;have HL:=HLd;clear HLd;refine Xaa ?_;clear hK K;go_wp2_with fail;go_ret;have e9:skT .nil ks d = [Brv.z]:=by simp[skT]
  rw[e9];exact GrO.of rfl (by rw[List.length_append,HGN.out];exact hG) HL
 | leaf k v=>as_aux_lemma =>
  intro D w gs σ z d A n c ks sv G bs h;obtain⟨i,hi,ez,c1,c2,c3,c4,c5,c6,c7,c8,c9,c10⟩:=id h.it;have hg:Got σ z σ.slots[i].nd σ.slots[i].val true:=.inl ⟨rfl,i,ez,hi,rfl,rfl,c1⟩;obtain⟨nd,hnd⟩:∃ nd,σ.slots[i].nd=nd:=⟨_,rfl⟩;obtain⟨vl,hvl⟩:∃ vl,σ.slots[i].val=vl:=⟨_,rfl⟩;rw[hnd,hvl] at hg;rw[hnd] at c3 c4 c10;have kz:(z==0)=false:=by simp;omega
  have HG0:=hZ hg;have HHS:Hid (nd.hash=tagV v∧nd.key=k∧nd.kind=1):=hZ ⟨c10,c4,c3⟩;have HIT:=hZ h.it;have HL:=h.loc;have HH:=hZ h;have hG:=h.gw;have hkl:=h.ky.len;have hbl:=h.bl;clear h hg hnd hvl ez c1 c2 c3 c4 c5 c6 c7 c8 c9 c10 hi;obtain⟨w0,rfl⟩:=eW w
  cases ks with
  | nil =>
   have kn:((n:Int)==0)=true:=by rw[← hkl];rfl
   simp only[skT,List.length_singleton] at hbl;obtain⟨dg,hdg⟩:∃ x,(Tre.leaf k v).dg=x:=⟨_,rfl⟩;have HDG:∀ u (D1:Nat→Prop),StW D1 u gs σ→Hid (Calls prog 83 #[pG gs,iV z] u (oB u dg.a)):=fun u D1 hu=>hZ (by rw[← hdg];exact xth hu HIT.out)
   refine Xk3 ?_;intro HGN;go_enter func87,ntmps87;go_upto_region 0 with fail;refine X1j ?_;go_upto_region 1 with fail;refine X12 ?_;refine Xk4 ?_;refine X1a ?_;go_upto_region 3 with fail;refine X12 ?_;refine Xii ?_;refine X6 ?_;refine Xe4 ?_;refine X1a ?_;go_upto_region 4 with fail;refine Xed ?_;intro K hK;refine X77 ?_;(with_reducible refine((HDG _ _ (HH.out.sts HL)).out).mono ?_);refine X4y ?_;clear hK K;intro w HL;refine xaa rfl _ (xbp xi7 _ rfl _ (by exact xkr dg)) ?_;refine X6 ?_;refine xb2 sl42 xg0 (by decide) rfl _ rfl HL _ rfl (Brv.len _) ?_;clear HL;intro g31 w HL;refine X50 ?_;intro K hK
   refine xan sl42 xg0 _ _ rfl [_] bs.length sv _ hG HL rfl ⟨g31,0,none⟩ 1 1 (⟨3,D32.z,D32.z,dg⟩:Brv).cells rfl (Rd.of_blk0 (es:=[]) (by rw[List.append_nil];exact HL.blk (.head _))) (Brv.len _) (Brv.one _) (by decide) (by omega) (by omega) ?_;clear HL hG;intro sv' G' w hG HL;have HLd:=HL.drop (G'++[]) (sA [_] _);clear HL;have HL:=HLd;clear HLd;refine Xaa ?_;clear hK K;go_wp2_with fail;go_ret;subst hdg;exact GrO.of rfl (by rw[skT,List.length_append,HGN.out];exact hG) HL
  | cons k0 ks0 =>
   have kn:((n:Int)==0)=false:=by rw[← hkl];simp;omega
   have k1:((nd.kind:Int)==1)=true:=by rw[HHS.out.2.2];rfl
   simp only[skT,List.length_singleton] at hbl;have HGN:Hid ((bs++[(⟨1,nd.key,nd.hash,D32.z⟩:Brv)]).flatMap Brv.cells=bs.flatMap Brv.cells++(⟨1,nd.key,nd.hash,D32.z⟩:Brv).cells):=hZ (by simp);go_enter func87,ntmps87;go_upto_region 0 with fail;refine X1j ?_;go_upto_region 1 with fail;refine X12 ?_;refine Xk4 ?_;refine X1a ?_;go_upto_region 3 with fail;refine X12 ?_;refine Xii ?_;refine X6 ?_;refine Xe5 ?_;refine X1a ?_;go_upto_region 5 with fail;refine X7x ?_;intro K hK;(with_reducible refine(xcy (HH.out.sts HL) z nd vl true HG0.out).mono ?_);refine X4y ?_;clear hK K;intro w HL;refine Xg6 ?_;refine X1a ?_;go_upto_region 6 with fail;refine X2j ?_;intro K hK;refine xad cf137 rfl _ rfl ?_;refine X1w ?_;(with_reducible refine(xvm (HH.out.sts HL) z nd vl HG0.out HHS.out.2.2).mono ?_);refine X4y ?_;clear hK K;intro w HL
   refine xah zr32 rfl rfl HL ?_;clear HL;intro g11 w HL;refine X6 ?_;refine xbo ag32 rfl _ _ rfl HL 0 _ _ _ _ rfl rfl rfl (Nod.len _) (Nod.len _) (Nod.one _) ?_;refine X34 ?_;clear HL;intro w HL;go_upto_region 7 with fail;refine X12 ?_;refine xaa rfl _ (xaf fa32_1 _ rfl _ rfl) ?_;refine X6 ?_;refine xaa rfl _ (xav ag24 HL _ rfl _ _ rfl _ _ _ (.head _) (Nod.g_key _) (D32.cl _)) ?_;refine X6 ?_;refine xaa rfl _ (xaf fa32_2 _ rfl _ rfl) ?_;refine X6 ?_;refine xaa rfl _ (xav ag23 HL _ rfl _ _ rfl _ _ _ (.head _) (Nod.g_val _) (D32.cl _)) ?_;refine X6 ?_;refine xaa rfl _ (xbp xi7 _ rfl _ (by exact bdq_1 nd.key nd.hash)) ?_;refine X6 ?_;refine xb2 sl42 xg0 (by decide) rfl _ rfl HL _ rfl (Brv.len _) ?_;clear HL;intro g47 w HL;refine X50 ?_;intro K hK
   refine xan sl42 xg0 _ _ rfl [_,_] bs.length sv _ hG HL rfl ⟨g47,0,none⟩ 1 1 (⟨1,nd.key,nd.hash,D32.z⟩:Brv).cells rfl (Rd.of_blk0 (es:=[]) (by rw[List.append_nil];exact HL.blk (.head _))) (Brv.len _) (Brv.one _) (by decide) (by omega) (by omega) ?_;clear HL hG;intro sv' G' w hG HL;have HLd:=HL.drop (G'++[]) (sA [_,_] _);clear HL;have HL:=HLd;clear HLd;refine Xaa ?_;clear hK K;go_wp2_with fail;go_ret;have e9:skT (.leaf k v) (k0::ks0) d = [⟨1,nd.key,nd.hash,D32.z⟩]:=by rw[skT,HHS.out.1,HHS.out.2.1]
   exact GrO.of rfl (by rw[e9,List.length_append,HGN.out];exact hG) HL
 | inner l r ihl ihr=>as_aux_lemma =>
  intro D w gs σ z d A n c ks sv G bs h;obtain⟨i,hi,ez,c1,c2,c3,c4,c5,c6,c7,c8⟩:=id h.it;obtain⟨hd,o1,o2,_⟩:=id h.ok;have hg:Got σ z σ.slots[i].nd σ.slots[i].val true:=.inl ⟨rfl,i,ez,hi,rfl,rfl,c1⟩;obtain⟨nd,hnd⟩:∃ nd,σ.slots[i].nd=nd:=⟨_,rfl⟩;obtain⟨vl,hvl⟩:∃ vl,σ.slots[i].val=vl:=⟨_,rfl⟩;rw[hnd,hvl] at hg;rw[hnd] at c2 c7 c8;have kz:(z==0)=false:=by simp;omega
  have HG0:=hZ hg;have HIT:=hZ h.it;have HC7:=hZ c7;have HC8:=hZ c8;have k1:((nd.kind:Int)==1)=false:=by rw[c2];rfl
  have HL:=h.loc;have HH:=hZ h;have hG:=h.gw;have hkl:=h.ky.len;have hbl:=h.bl;have HCAP:=hZ h.ky.cap;have HN8:=hZ h.n8;clear h hg hnd hvl ez c1 c2 c3 c4 c5 c6 c7 c8 hi;obtain⟨w0,rfl⟩:=eW w
  cases ks with
  | nil =>
   have kn:((n:Int)==0)=true:=by rw[← hkl];rfl
   simp only[skT,List.length_singleton] at hbl;obtain⟨dg,hdg⟩:∃ x,(Tre.inner l r).dg=x:=⟨_,rfl⟩;have HDG:∀ u (D1:Nat→Prop),StW D1 u gs σ→Hid (Calls prog 83 #[pG gs,iV z] u (oB u dg.a)):=fun u D1 hu=>hZ (by rw[← hdg];exact xth hu HIT.out)
   refine Xk3 ?_;intro HGN;go_enter func87,ntmps87;go_upto_region 0 with fail;refine X1j ?_;go_upto_region 1 with fail;refine X12 ?_;refine Xk4 ?_;refine X1a ?_;go_upto_region 3 with fail;refine X12 ?_;refine Xii ?_;refine X6 ?_;refine Xe4 ?_;refine X1a ?_;go_upto_region 4 with fail;refine Xed ?_;intro K hK;refine X77 ?_;(with_reducible refine((HDG _ _ (HH.out.sts HL)).out).mono ?_);refine X4y ?_;clear hK K;intro w HL;refine xaa rfl _ (xbp xi7 _ rfl _ (by exact xkr dg)) ?_;refine X6 ?_;refine xb2 sl42 xg0 (by decide) rfl _ rfl HL _ rfl (Brv.len _) ?_;clear HL;intro g31 w HL;refine X50 ?_;intro K hK
   refine xan sl42 xg0 _ _ rfl [_] bs.length sv _ hG HL rfl ⟨g31,0,none⟩ 1 1 (⟨3,D32.z,D32.z,dg⟩:Brv).cells rfl (Rd.of_blk0 (es:=[]) (by rw[List.append_nil];exact HL.blk (.head _))) (Brv.len _) (Brv.one _) (by decide) (by omega) (by omega) ?_;clear HL hG;intro sv' G' w hG HL;have HLd:=HL.drop (G'++[]) (sA [_] _);clear HL;have HL:=HLd;clear HLd;refine Xaa ?_;clear hK K;go_wp2_with fail;go_ret;subst hdg;exact GrO.of rfl (by rw[skT,List.length_append,HGN.out];exact hG) HL
  | cons k0 ks0 =>
   have kn:((n:Int)==0)=false:=by rw[← hkl];simp;omega
   obtain⟨kk,hkk⟩:∃ kk,k0::ks0=kk:=⟨_,rfl⟩;have hsk:skT (.inner l r) (k0::ks0) d=⟨2,D32.z,D32.z,D32.z⟩::(skT l (loK d kk) (d+1)++skT r (hiK d kk) (d+1)):=by rw[← hkk];rfl
   rw[hsk] at hbl ⊢;simp only[qr,qp] at hbl;rw[hkk] at HH hkl;have hknz:kk≠[]:=by rw[← hkk];simp
   have HPN:Hid (xbd kk d≤n∧xbd kk d≤c):=hZ (by have:=xen kk d;have:=HCAP.out;omega);have HGN:Hid ((bs++[(⟨2,D32.z,D32.z,D32.z⟩:Brv)]).flatMap Brv.cells=bs.flatMap Brv.cells++(⟨2,D32.z,D32.z,D32.z⟩:Brv).cells):=hZ (by simp);refine Xd0 ?_;intro HD1;have HD:=hZ hd;have HO1:=hZ o1;have HO2:=hZ o2;clear hkk hsk o1 o2 hd;go_enter func87,ntmps87;go_upto_region 0 with fail;refine X1j ?_;go_upto_region 1 with fail;refine X12 ?_;refine Xk4 ?_;refine X1a ?_;go_upto_region 3 with fail;refine X12 ?_;refine Xii ?_;refine X6 ?_;refine Xe5 ?_;refine X1a ?_;go_upto_region 5 with fail;refine X7x ?_;intro K hK;(with_reducible refine(xcy (HH.out.sts HL) z nd vl true HG0.out).mono ?_);refine X4y ?_;clear hK K;intro w HL;refine Xd2 ?_;go_upto_region 8 with fail;refine X2j ?_;intro K hK;refine X7n ?_
   (with_reducible refine(xgd (HH.out.sts HL) z nd vl true HG0.out).mono ?_);refine X4a ?_;clear hK K;intro w HL;refine X1f ?_;go_upto_region 9 with fail;refine X2j ?_;intro K hK;refine xad cf139 rfl _ rfl ?_;refine X1w ?_;(with_reducible refine(xk5 A n c kk d HD.out _ (HH.out.kys HL) (by have:=HN8.out;omega)).mono ?_);refine X7u ?_;clear hK K;intro w HL;go_upto_region 10 with fail;refine X12 ?_;refine xaa rfl _ (xbp xi7 _ rfl _ (by exact xkq 2)) ?_;refine X6 ?_;refine xb2 sl42 xg0 (by decide) rfl _ rfl HL _ rfl (Brv.len _) ?_;clear HL;intro g60 w HL;refine X50 ?_;intro K hK
   refine xan sl42 xg0 _ _ rfl [_] bs.length sv _ hG HL rfl ⟨g60,0,none⟩ 1 1 (⟨2,D32.z,D32.z,D32.z⟩:Brv).cells rfl (Rd.of_blk0 (es:=[]) (by rw[List.append_nil];exact HL.blk (.head _))) (Brv.len _) (Brv.one _) (by decide) (by omega) (by omega) ?_;clear HL hG;intro sv' G' w hG HL;have HLd:=HL.drop (G'++[]) (sA [_] _);clear HL;have HL:=HLd;clear HLd;refine Xaa ?_;clear hK K;rw[← HGN.out] at hG;have hGl:bs.length+1=(bs++[(⟨2,D32.z,D32.z,D32.z⟩:Brv)]).length:=by simp
   rw[hGl] at hG
   have HK1:Hid (SkI D w gs σ nd.left (d+1) l A (xbd kk d) c (loK d kk) sv' G' (bs++[⟨2,D32.z,D32.z,D32.z⟩])):=hZ (by
    have hky:=HH.out.kys HL;refine⟨HH.out.sts HL,HC7.out,HO1.out,?_,fun _ ad e x hx e2=>?_,hG,fun x hx=>(HL.own x (by simp[hx])).2,fun x hx hd=>?_,by have:=HPN.out;have:=HN8.out;omega,by rw[← hGl];omega⟩
    ·have:=hky.cut 0 (xbd kk d) (Nat.zero_le _) HPN.out.1
     rw[List.drop_zero,Nat.sub_zero,Nat.sub_zero,xte] at this
     have e0:cutA A c 0 32=A:=by
      unfold cutA
      split
      ·rfl
      ·cases A with
       | none=>rfl
       | some ad=>simp[Addr.add_zero']
     rw[e0] at this;exact this
    ·have hlt:=HH.out.ky.rd.lt (kfm_ne hknz) e
     refine(HL.own x (by simp[hx])).1 ⟨by rw[e2];exact hlt,fun⟨y,hy,e3⟩=>HH.out.kg hknz ad e y hy (by rw[e3,e2])⟩
    ·refine(HL.own x (by simp[hx])).1 ⟨HH.out.st.lt _ hd,fun⟨y,hy,e3⟩=>HH.out.gd y hy (by rw[e3];exact hd)⟩)
   have CL:=hZ (ihl D w gs σ nd.left (d+1) A (xbd kk d) c (loK d kk) sv' G' (bs++[⟨2,D32.z,D32.z,D32.z⟩]) HK1.out);go_upto_region 11 with fail;refine X99 ?_;refine X11 ?_;refine xaa rfl _ (xbw sl26 _ _ rfl A n c (xbd kk d) .i64 rfl rfl HPN.out.2) ?_;refine X15 ?_;refine xaa rfl _ (xa6 _ _ rfl _ _ _ rfl rfl HD1.out (by have:=HD.out;omega)) ?_;refine X50 ?_;intro K hK;refine xad cf87 rfl _ rfl ?_;refine X1w ?_;(with_reducible refine(CL.out).mono ?_);rintro e w ⟨sv2,G2,rfl,hG2,hB2,hF2⟩;have HL2:=HL.regrow hF2 hB2 hG2.pw;clear HL hG hB2 hF2;have HL:=HL2;clear HL2;refine X2m ?_;clear hK K
   have HK2:Hid (SkI D w gs σ nd.right (d+1) r (cutA A c (xbd kk d) 32) (n - xbd kk d) (c - xbd kk d) (hiK d kk) sv2 G2 (bs++[⟨2,D32.z,D32.z,D32.z⟩]++skT l (loK d kk) (d+1))):=hZ (by
    have hky:=HH.out.kys HL;refine⟨HH.out.sts HL,HC8.out,HO2.out,?_,fun hne ad e x hx e2=>?_,hG2,fun x hx=>(HL.own x (by simp[hx])).2,fun x hx hd=>?_,by have:=HPN.out;have:=HN8.out;omega,by rw[List.length_append,← hGl];omega⟩
    ·have:=hky.cut (xbd kk d) n HPN.out.1 (Nat.le_refl _)
     rw[← hky.len,List.take_of_length_le (by rw[List.length_drop];exact Nat.le_refl _),xtf,hky.len] at this;exact this
    ·obtain⟨ad0,ea,eb⟩:∃ ad0,A=some ad0∧ad0.block=ad.block:=by
      unfold cutA at e
      split at e
      ·exact⟨ad,e,rfl⟩
      ·cases hA:A with
       | none=>rw[hA] at e;cases e
       | some a0 =>
        rw[hA] at e;simp only[Option.map_some,Option.some.injEq] at e;exact⟨a0,rfl,by rw[← e];unfold Addr.add;split<;>rfl⟩
     have hlt:=HH.out.ky.rd.lt (kfm_ne hknz) ea;refine(HL.own x (by simp[hx])).1 ⟨by rw[e2,← eb];exact hlt,fun⟨y,hy,e3⟩=>HH.out.kg hknz ad0 ea y hy (by rw[e3,e2,eb])⟩
    ·refine(HL.own x (by simp[hx])).1 ⟨HH.out.st.lt _ hd,fun⟨y,hy,e3⟩=>HH.out.gd y hy (by rw[e3];exact hd)⟩)
   have CR:=hZ (ihr D w gs σ nd.right (d+1) (cutA A c (xbd kk d) 32) (n - xbd kk d) (c - xbd kk d) (hiK d kk) sv2 G2 _ HK2.out);go_upto_region 12 with fail;refine X99 ?_;refine X11 ?_;refine xaa rfl _ (xbt sl26 _ _ rfl A n c (xbd kk d) .i64 rfl rfl HPN.out.1) ?_;refine X15 ?_;refine xaa rfl _ (xa6 _ _ rfl _ _ _ rfl rfl HD1.out (by have:=HD.out;omega)) ?_;refine X50 ?_;intro K hK;refine xad cf87 rfl _ rfl ?_;refine Xk5 ?_;rintro e w ⟨sv3,G3,rfl,hG3,hB3,hF3⟩;have HL2:=HL.regrow hF3 hB3 hG3.pw;clear HL hB3 hF3;have HL:=HL2;clear HL2;refine X2m ?_;clear hK K;go_wp2_with fail;go_ret;have e9:bs++⟨2,D32.z,D32.z,D32.z⟩::(skT l (loK d kk) (d+1)++skT r (hiK d kk) (d+1))=bs++[⟨2,D32.z,D32.z,D32.z⟩]++skT l (loK d kk) (d+1)++skT r (hiK d kk) (d+1):=by simp
   rw[e9];exact GrO.of rfl hG3 HL
end
def PvO(w:World)(t:Tre)(ds:List D32)(e:Ending)(w':World):Prop:=∃ (ps:Sv)(ks:List D32),e=.returned (.tuple #[mval ps,iV 0])∧BrS w' ps (skT t ks 0)∧RisK ks∧(∀ k,k∈ks↔k∈ds)∧ks.length≤ds.length∧(∀ ad,ps.A=some ad→w.heap.size≤ad.block)∧Bw w w'
def Sk0(w:World)(bs:List Brv)(e:Ending)(w':World):Prop:=∃ ps:Sv,e=.returned ps.v∧BrS w' ps bs∧(∀ ad,ps.A=some ad→w.heap.size≤ad.block)∧Bw w w'
theorem GrO.nil{w w':World}{bs:List Brv}{e:Ending}(hk:∀ b∈bs,b.kind<256)(h:GrO w [] bs e w'):Sk0 w bs e w':=by
 obtain⟨sv,G,he,hG,hB,hF⟩:=h;have hb:Bw w w':=⟨hF.os,hF.tape,hF.output,hF.size,fun k hk=>hF.block k hk (fun⟨y,hy,_⟩=>by cases hy)⟩;obtain⟨hl,⟨rfl,rfl,h0⟩ | ⟨g,cap,tl,rfl,rfl,h1,h2,h3⟩⟩:=hG
 ·have hbs:bs = []:=List.eq_nil_of_length_eq_zero h0
  subst hbs;exact⟨_,he,⟨Rd.nil _ _,rfl,Nat.le_refl _,hk⟩,fun ad e=>(by cases e),hb⟩
 ·obtain⟨h4,h5⟩:=hB _ (.head _)
  refine⟨_,he,⟨Rd.of_blk0 h4,rfl,h1,hk⟩,fun ad e=>?_,hb⟩;cases e;rcases h5 with⟨y,hy,_⟩ | h5
  ·cases hy
  ·exact h5
section
variable {S:Nat→Prop}{w w':World}{gd u:Nat}{t:Tre}
theorem xqb{D:Nat→Prop}{gs:Nat}{σ:Sb}{z:Int}{A:Option Addr}{n c:Nat}{ks:List D32}(hst:StW D w gs σ)(hit:IsT σ z 0 t)(hok:t.Ok 0)(hky:KyS w A n c ks)(hn:n≤8) :
  Calls prog 87 #[.slice none 0 0,pG gs,iV z,.slice A n c,iV 0] w (Sk0 w (skT t ks 0)):=by
 have hl:=xoe t ks 256 0 rfl hok;have hkl:=hky.len;have h:=xrt t D w gs σ z 0 A n c ks Sv.nil [] [] ⟨hst,hit,hok,hky,fun _ _ _ x hx=>(by cases hx),Gw.nil 124 97,fun x hx=>(by cases hx),fun x hx=>(by cases hx),hn,by rw[List.length_nil];omega⟩;rw[List.nil_append] at h;exact h.mono fun e w' h=>h.nil (xod t ks 0)
theorem xvn(h:DkV S w gd t u)(N:Nat)(sv:Sv)(ds:List D32)(hT:TxR N w sv (ds.map D32.l))(h8:ds.length≤8):Calls prog 32 #[pG gd,.string ⟨#[]⟩,sv.v] w (PvO w t ds):=by
 obtain⟨D,gs,g,gv,gm,σ,vs,vf,vl,root,h⟩:=h;have HH:=hZ h;have HT:=hZ hT;clear h hT;obtain⟨w0,rfl,HL⟩:=lS w;go_enter func32,ntmps32;go_upto_region 0 with fail;refine Xt ?_;refine xah zr44 rfl rfl HL ?_;clear HL;intro g6 w HL;refine X1a ?_;go_upto_region 1 with fail;refine X1v ?_;intro K hK;refine xad cf86 rfl _ rfl ?_;refine X1w ?_;(with_reducible refine(dc_store (HH.out.dc.below HL.below).dc).mono ?_);rintro e w ⟨rfl,rfl⟩;refine X2m ?_;clear hK K;go_upto_region 2 with fail;refine X2n ?_;go_upto_region 4 with fail;refine X1v ?_;intro K hK;refine xad cf31 rfl _ rfl ?_;refine X1w ?_;(with_reducible refine(xmr N sv ds (HT.out.below HL.below) h8).mono ?_);rintro e w ⟨sv2,ks,rfl,hky,hris,hmem,hlen,hfar,hb⟩;replace HL:=HL.next hb;clear hb;have HK:=hZ (And.intro hris (And.intro hmem hlen))
 have hk8:sv2.n≤8:=by have:=hky.len;omega
 clear hris hmem hlen hfar;refine X7l ?_;clear hK K;go_upto_region 5 with fail;refine Xew ?_;go_upto_region 7 with fail;refine X2j ?_;intro K hK;refine Xf6 ?_;(with_reducible refine(xmj (HH.out.dc.below HL.below).dc).mono ?_);rintro e w ⟨rfl,rfl⟩;refine X7l ?_;clear hK K;go_upto_region 8 with fail;refine Xew ?_;have CS:Hid (Calls prog 87 #[.slice none 0 0,pG gs,iV root,sv2.v,iV 0] w (Sk0 w (skT t ks 0))):=hZ (xqb (HH.out.dc.below HL.below).dc.st.sw HH.out.it HH.out.ok hky hk8);clear hky;go_upto_region 10 with fail;refine Xed ?_;intro K hK;refine xad cf87 rfl _ rfl ?_;refine Xco ?_;rintro e w ⟨ps,rfl,hps,hpf,hb⟩;have H1:=HL.next hb;have hfr:=fun(k:Nat) h1 h2=>HL.fresh (w1:=w) (k:=k) h1 h2
 have hsz:=HL.fr.size;clear CS;replace HL:=HL.after hb;clear hb;obtain⟨w1,rfl⟩:=eW w;have HBK:=fun(L:BL)(u:World)(h:Loc w1 _ L u)=>H1.back h
 generalize Rest w1 _=D1 at HL HBK hfr;clear H1;refine X5k ?_;clear hK K;refine xaa rfl _ (xbp bs44 _ rfl _ (by exact bd44_21 ps)) ?_;refine X6 ?_;refine xbo ag44 rfl _ _ rfl HL 0 _ _ _ _ rfl rfl rfl rfl rfl (fun u hu=>by rw[List.mem_singleton.1 hu];exact Sv.one _) ?_;refine X2p ?_;clear HL;intro w HL;refine X10 ?_;go_wp2_with fail;refine Xc ?_;refine bodyPost_ret (xay rfl ag44 _ _ g6 44 _ rfl (HL.blk (.head _)) rfl) rfl ?_;exact⟨ps,ks,rfl,hps.keep HL (fun ad e h2=>hfr _ (hpf ad e) h2),HK.out.1,HK.out.2.1,HK.out.2.2,fun ad e=>Nat.le_trans hsz (hpf ad e),HBK _ _ HL⟩
end
section
variable {w w':World}
theorem xqc(A:Option Addr)(n c:Nat)(ks:List D32)(ps:Sv)(bs:List Brv)(w:World)(hK:KyS w A n c ks)(hB:BrS w ps bs)(hnn:n≤140737488351232)(x:D32)(hq:rdQ ks bs=some x):Calls prog 140 #[.slice A n c,mval ps] w (oB w (iV 0)):=by
 have HKS:=hZ hK;have HBS:=hZ hB;clear hK hB;obtain⟨w0,rfl,HL⟩:=lS w;go_enter func140,ntmps140;go_upto_region 0 with fail;refine X39 ?_;clear HL;intro g3 w HL;refine X1a ?_;go_upto_region 1 with fail;refine X12 ?_;refine xaa rfl _ (xbn ag44 HL _ rfl _ rfl _ _ (.head _) rfl) ?_;refine X50 ?_;intro K hK;refine xad cf57 rfl _ rfl ?_;refine X1w ?_;refine Xjw ?_;rintro e w ⟨h,ways,er,rfl,hb,hx⟩;replace HL:=HL.next hb;clear hb;refine X8d ?_;clear hK K;refine xah zr23 rfl rfl HL ?_;clear HL;intro g5 w HL;refine X5p ?_;refine X33 ?_;clear HL;intro w HL;refine X1f ?_;go_upto_region 2 with fail;refine X7v ?_;go_wp2_with fail;go_ret;rcases hx with⟨h1,h2,_⟩ | ⟨h1,h2⟩
 ·rw[h1];exact⟨rfl,HL.below⟩
 ·rw[hq] at h2;cases h2
theorem xms(A:Option Addr)(n c:Nat)(ks:List D32)(d:Nat)(hd:d<256)(w:World)(h:KyS w A n c ks)(hn:n≤140737488351232) :
  Calls prog 205 #[.slice A n c,iV d] w (oB w (.int .i64 ((xbd ks d:Nat):Int))):=by
 have HT:=hZ h;have HLEN:=hZ h.len;clear h;obtain⟨w0,rfl,HL⟩:=lS w;obtain⟨pn,hpn⟩:∃ pn,xbd ks d=pn:=⟨_,rfl⟩;rw[hpn];have HPN:=hZ hpn;clear hpn;go_enter func205,ntmps205;go_upto_region 0 with fail;refine X1j ?_;go_upto_region 1 with fail;refine X1j ?_;go_wp2_with fail
 go_loopw [5] (fun z wr=>∃ i:Nat,i≤n∧z=.int .i64 (i:Int)∧(∀ (j:Nat)(hj:j<ks.length),j<i→tb ks[j].l d=false)∧Loc w0 (Old w0) [] wr) (fun z _=>(n - intOf z).toNat)
 case atStart=>exact⟨0,Nat.zero_le _,rfl,fun j hj h=>by omega,HL⟩
 case round =>
  clear HL;obtain⟨i,hi,rfl,hz,HL⟩:=hrel;obtain⟨w,rfl⟩:=eW wr;have HZ:=hZ hz;clear hz;by_cases hlt:i<n
  ·have k3:decide ((i:Int)<(n:Int))=true:=by simp;omega
   have hik:i<ks.length:=by have:=HLEN.out;omega
   obtain⟨ad,hA,hE⟩:=HT.out.at_ i hik;have HE:=hZ hE;refine Xan ?_;intro HSV;clear hE hA;have C:=fun u=>hZ (xih u ks[i] d hd)
   cases hb:tb ks[i].l d with
   | false =>
    rw[hb] at C;refine Xam ?_;intro HI;have HB:=hZ hb;clear hb;go_upto_region 2 with fail;refine Xgd ?_;refine X84 ?_;refine Xge ?_;refine X6 ?_;refine Xgf ?_;refine X5j ?_;intro K hK;refine X5e ?_;refine X4y ?_;clear hK K;intro w HL;refine Xgg ?_;go_upto_region 3 with fail;refine Xat ?_;go_wp2_with fail;go_roundw
    case rel =>
     refine⟨i+1,by omega,rfl,fun j hj h=>?_,HL⟩;by_cases hji:j=i
     ·subst hji;exact HB.out
     ·exact HZ.out j hj (by omega)
    case measure=>simp[intOf]<;>omega
   | true =>
    rw[hb] at C;have HB:=hZ hb;clear hb;go_upto_region 2 with fail;refine Xgd ?_;refine X84 ?_;refine Xge ?_;refine X6 ?_;refine Xgf ?_;refine X5j ?_;intro K hK;refine X5e ?_;refine X4y ?_;clear hK K;intro w HL;refine Xgh ?_;go_upto_region 4 with fail;refine X7v ?_;go_wp2_with fail;go_ret;exact⟨by rw[← HPN.out,xh2 ks d i (by omega) HZ.out (fun _=>HB.out)];rfl,HL.below⟩
  ·have k3:decide ((i:Int)<(n:Int))=false:=by simp;omega
   go_upto_region 2 with fail;refine Xgd ?_;refine Xak ?_;refine no_implicit_lambda% (X52 ?_);go_upto_region 4 with fail;refine X7v ?_;go_wp2_with fail;go_ret;exact⟨by rw[← HPN.out,xh2 ks d i (by have:=HLEN.out;omega) HZ.out (fun hj=>by have:=HLEN.out;omega)];rfl,HL.below⟩
def DgO(x:D32)(w:World)(e:Ending)(w':World):Prop:=e=.returned x.a∧Bw w w'
structure EnS (w:World)(A B:Option Addr)(m c c2:Nat)(es:List Ent):Prop where
 k:KyS w A m c (es.map Prod.fst)
 v:KyS w B m c2 (es.map fun p=>tagV p.2)
theorem EnS.below{A B:Option Addr}{m c c2:Nat}{es:List Ent}(h:EnS w A B m c c2 es)(hb:Bw w w'):EnS w' A B m c c2 es:=⟨h.k.below hb,h.v.below hb⟩
theorem EnS.len{A B:Option Addr}{m c c2:Nat}{es:List Ent}(h:EnS w A B m c c2 es):es.length=m:=by have:=h.k.len;rwa [List.length_map] at this
theorem EnS.lo{A B:Option Addr}{m c c2:Nat}{es:List Ent}(h:EnS w A B m c c2 es)(d:Nat):EnS w A B (xbd (es.map Prod.fst) d) c c2 (loE d es):=by
 have hp:xbd (es.map Prod.fst) d≤m:=by have:=xen (es.map Prod.fst) d;rw[List.length_map,h.len] at this;exact this
 have e0:∀ (X:Option Addr)(cc:Nat),cutA X cc 0 32=X:=fun X cc=>by
  unfold cutA
  split
  ·rfl
  ·cases X with
   | none=>rfl
   | some ad=>simp[Addr.add_zero']
 have h1:=h.k.cut 0 (xbd (es.map Prod.fst) d) (Nat.zero_le _) hp;have h2:=h.v.cut 0 (xbd (es.map Prod.fst) d) (Nat.zero_le _) hp;rw[List.drop_zero,Nat.sub_zero,Nat.sub_zero,e0,← List.map_take,partE_lo] at h1 h2;exact⟨h1,h2⟩
theorem EnS.hi{A B:Option Addr}{m c c2:Nat}{es:List Ent}(h:EnS w A B m c c2 es)(d:Nat):EnS w (cutA A c (xbd (es.map Prod.fst) d) 32) (cutA B c2 (xbd (es.map Prod.fst) d) 32) (m - xbd (es.map Prod.fst) d) (c - xbd (es.map Prod.fst) d) (c2 - xbd (es.map Prod.fst) d) (hiE d es):=by
 have hp:xbd (es.map Prod.fst) d≤m:=by have:=xen (es.map Prod.fst) d;rw[List.length_map,h.len] at this;exact this
 have h1:=h.k.cut (xbd (es.map Prod.fst) d) m hp (Nat.le_refl _);have h2:=h.v.cut (xbd (es.map Prod.fst) d) m hp (Nat.le_refl _);rw[List.take_of_length_le (by rw[List.length_drop,List.length_map,h.len];exact Nat.le_refl _),← List.map_drop,partE_hi] at h1 h2;exact⟨h1,h2⟩
theorem xmt(n:Nat)(w:World)(A B:Option Addr)(m c c2 d:Nat)(hm:m=0):Calls prog 203 #[.slice A m c,.slice B m c2,iV d] w (DgO (xak n d []).dg w):=by
 subst hm;have e:(xak n d []).dg=tagE:=by cases n<;>rfl
 rw[e];clear e;have k2:(((0:Nat):Int)==0)=true:=by simp
 obtain⟨w0,rfl,HL⟩:=lS w;go_enter func203,ntmps203;go_upto_region 0 with fail;refine Xt ?_;refine xah zr23 rfl rfl HL ?_;clear HL;intro g6 w HL;refine X1z ?_;go_upto_region 1 with fail;refine X12 ?_;refine xaa rfl _ (xam underlying26 _ rfl ⟨A,0,c⟩ 0 rfl rfl) ?_;refine X1z ?_;go_upto_region 2 with fail;refine Xt ?_;refine Xg4 ?_;refine X1a ?_;go_upto_region 3 with fail;refine Xt ?_;refine X1u ?_;intro K hK;refine X4w ?_;refine X4x ?_;refine X4y ?_;clear hK K;intro w HL;refine X4z ?_;refine X34 ?_;clear HL;intro w HL;go_wp2_with fail;refine Xc ?_;refine Xk6 ?_;exact⟨rfl,HL.below⟩
theorem xmu(n:Nat)(w:World)(A B:Option Addr)(m c c2 d:Nat)(x:Ent)(hm:m=1)(hE:EnS w A B m c c2 [x]):Calls prog 203 #[.slice A m c,.slice B m c2,iV d] w (DgO (xak n d [x]).dg w):=by
 subst hm;have e:(xak n d [x]).dg=tagL x.1 (tagV x.2):=by cases n<;>rfl
 rw[e];clear e;have k2:(((1:Nat):Int)==0)=false:=by simp
 have k4:(((1:Nat):Int)==1)=true:=by simp
 obtain⟨a1,hA,hr1⟩:=hE.k.at_ 0 (by simp);obtain⟨a2,hB,hr2⟩:=hE.v.at_ 0 (by simp);simp only[qk,ql,List.getElem_cons_zero] at hr1 hr2;have HR1:=hZ hr1;have HR2:=hZ hr2;generalize tagV x.2=dv at HR2 ⊢;generalize x.1=dk at HR1 ⊢;clear hE hr1 hr2;subst hA hB;obtain⟨w0,rfl,HL⟩:=lS w;go_enter func203,ntmps203;go_upto_region 0 with fail;refine Xt ?_;refine xah zr23 rfl rfl HL ?_;clear HL;intro g6 w HL;refine X1z ?_;go_upto_region 1 with fail;refine X12 ?_;refine xaa rfl _ (xam underlying26 _ rfl ⟨some a1,1,c⟩ 1 rfl rfl) ?_;refine X1z ?_;go_upto_region 2 with fail;refine Xg5 ?_;go_upto_region 4 with fail;refine Xt ?_;refine xaa rfl _ (xao (b:=true) _ _ rfl _ _ rfl rfl k4) ?_;refine X1a ?_;go_upto_region 5 with fail;refine rB (Loc.P HL) [7] [6,7] [0,1,2,3,4,5,6,7] 0 ?_;refine X3c ?_;intro HL
 refine xab rfl rfl HL (fun W hW=>xaz sl26 _ _ rfl a1 1 c 0 .i64 rfl rfl (by decide)) ?_;refine X6 ?_;refine xab rfl rfl HL (fun W hW=>xa5 ag24 _ rfl (a1.add (0*32)) dk.c rfl (hW.rdO HR1.out) (by decide) (D32.cl _)) ?_;refine X3g ?_;refine xab rfl rfl HL (fun W hW=>xaz sl29 _ _ rfl a2 1 c2 0 .i64 rfl rfl (by decide)) ?_;refine X6 ?_;refine xab rfl rfl HL (fun W hW=>xa5 ag23 _ rfl (a2.add (0*32)) dv.c rfl (hW.rdO HR2.out) (by decide) (D32.cl _)) ?_;refine Xh ?_;intro K hK;refine X5t ?_;refine X1w ?_;(with_reducible refine(xig _ dk dv).mono ?_);refine X7p ?_;clear hK K;intro w HL K hK;refine xe4 ag23 _ _ rfl HL 0 g6 23 _ _ rfl rfl rfl (D32.cl _) (D32.cl _) (D32.c1 _) ?_;refine X2p ?_;clear HL;intro w HL;refine Xhb ?_;clear hK K;go_wp2_with fail;refine Xc ?_;refine Xk6 ?_;exact⟨rfl,HL.below⟩
theorem xlc:∀ (n d:Nat)(es:List Ent)(w:World)(A B:Option Addr)(m c c2:Nat),d+n=256→Rise es→AlkE d es→(∀ p∈es,p.2.length≤1024)→EnS w A B m c c2 es→m≤140737488351232→Calls prog 203 #[.slice A m c,.slice B m c2,iV d] w (DgO (xak n d es).dg w):=by
 intro n
 induction n with
 | zero=>as_aux_lemma =>
  intro d es w A B m c c2 hd hr ha hv hE hm
  match es,hE.len with
  | [],hml=>exact xmt 0 w A B m c c2 d (by simpa using hml.symm)
  | [x],hml=>exact xmu 0 w A B m c c2 d x (by simpa using hml.symm) hE
  | x::y::l,hml=>exact(xcv 0 d (x::y::l) hd hr ha).elim
 | succ n ih=>as_aux_lemma =>
  intro d es w A B m c c2 hd hr ha hv hE hm
  match es,hE.len with
  | [],hml=>exact xmt (n+1) w A B m c c2 d (by simpa using hml.symm)
  | [x],hml=>exact xmu (n+1) w A B m c c2 d x (by simpa using hml.symm) hE
  | x::y::l,hml =>
   have hfr2:=xvl n d (x::y::l) hd hr ha hv (by simp);have hl:=xcv (n+1) d _ hd hr ha;obtain⟨es,hes⟩:∃ es,es=x::y::l:=⟨_,rfl⟩;rw[← hes] at hfr2 hr ha hv hE hml ⊢;rw[hfr2];have hm2:2≤m:=by rw[← hml,hes];simp
   clear hes hfr2 hl x y l;have HE:=hZ hE;have HD:Hid (d<256):=hZ (by omega);refine Xd0 ?_;intro HD1;have k2:((m:Int)==0)=false:=by simp;omega
   have k4:((m:Int)==1)=false:=by simp;omega
   obtain⟨pn,hpn⟩:∃ pn,xbd (es.map Prod.fst) d=pn:=⟨_,rfl⟩;have HPN:Hid (pn≤m):=hZ (by have:=xen (es.map Prod.fst) d;rw[List.length_map,hml] at this;omega);have HPC:Hid (pn≤c∧pn≤c2):=hZ ⟨by have:=HPN.out;have:=hE.k.cap;omega,by have:=HPN.out;have:=hE.v.cap;omega⟩;have CP:∀ u,Bw w u→Hid (Calls prog 205 #[.slice A m c,iV d] u (oB u (.int .i64 ((pn:Nat):Int)))):=fun u hu=>hZ (by rw[← hpn];exact xms A m c (es.map Prod.fst) d HD.out u (HE.out.k.below hu) hm)
   have CA:∀ u,Bw w u→Hid (Calls prog 203 #[.slice A pn c,.slice B pn c2,.int .i64 ((d+1:Nat):Int)] u (DgO (xak n (d+1) (loE d es)).dg u)):=fun u hu=>hZ (by rw[← hpn];exact ih (d+1) (loE d es) u A B _ c c2 (by omega) (hr.sublist (List.takeWhile_sublist _)) (xj2 ha) (fun p hp=>hv p ((List.takeWhile_sublist _).subset hp)) ((HE.out.below hu).lo d) (by have:=HPN.out;omega))
   have CB:∀ u,Bw w u→Hid (Calls prog 203 #[.slice (cutA A c pn 32) (m - pn) (c - pn),.slice (cutA B c2 pn 32) (m - pn) (c2 - pn),.int .i64 ((d+1:Nat):Int)] u (DgO (xak n (d+1) (hiE d es)).dg u)):=fun u hu=>hZ (by rw[← hpn];exact ih (d+1) (hiE d es) u _ _ _ _ _ (by omega) (hr.sublist (List.dropWhile_sublist _)) (xog HD.out hr ha) (fun p hp=>hv p ((List.dropWhile_sublist _).subset hp)) ((HE.out.below hu).hi d) (by omega))
   generalize (xak n (d+1) (loE d es)).dg=da at CA ⊢;generalize (xak n (d+1) (hiE d es)).dg=db at CB ⊢;clear hpn hE ih;obtain⟨w0,rfl,HL⟩:=lS w;go_enter func203,ntmps203;go_upto_region 0 with fail;refine Xt ?_;refine xah zr23 rfl rfl HL ?_;clear HL;intro g6 w HL;refine X1z ?_;go_upto_region 1 with fail;refine X12 ?_;refine xaa rfl _ (xam underlying26 _ rfl ⟨A,m,c⟩ m rfl rfl) ?_;refine X1z ?_;go_upto_region 2 with fail;refine Xg5 ?_;go_upto_region 4 with fail;refine Xt ?_;refine xaa rfl _ (xao (b:=false) _ _ rfl _ _ rfl rfl k4) ?_;refine X1a ?_;go_upto_region 6 with fail;refine X2j ?_;intro K hK;refine xad cf205 rfl _ rfl ?_;refine X1w ?_;(with_reducible refine((CP _ HL.below).out).mono ?_);refine X7u ?_;clear hK K;intro w HL;go_upto_region 7 with fail
   refine rB (Loc.P HL) [19] [8,17,18,19] [0,1,2,3,4,5,6,7,9,10,11,12,13,14,15,16,8,17,18,19] 0 ?_;refine X3v ?_;intro HL;refine Xk7 ?_;refine X71 ?_;refine Xk8 ?_;refine X3g ?_;refine xab rfl rfl HL (fun W hW=>xa6 _ _ rfl _ _ _ rfl rfl HD1.out (by have:=HD.out;omega)) ?_;refine X71 ?_;refine Xk9 ?_;refine X71 ?_;refine Xka ?_;refine X3g ?_;refine xab rfl rfl HL (fun W hW=>xa6 _ _ rfl _ _ _ rfl rfl HD1.out (by have:=HD.out;omega)) ?_;refine Xh ?_;intro K hK;refine xad cf203 rfl _ rfl ?_;refine X1w ?_;(with_reducible refine((CA _ HL.below).out).mono ?_);refine X7p ?_;clear hK K;intro w HL K hK;refine xad cf203 rfl _ rfl ?_;refine X1w ?_;(with_reducible refine((CB _ HL.below).out).mono ?_);refine X7p ?_;clear hK K;intro w HL K hK;refine Xkb ?_;refine X7p ?_;clear hK K;intro w HL K hK
   refine xe4 ag23 _ _ rfl HL 0 g6 23 _ _ rfl rfl rfl (D32.cl _) (D32.cl _) (D32.c1 _) ?_;refine X2p ?_;clear HL;intro w HL;refine Xhb ?_;clear hK K;go_wp2_with fail;refine Xc ?_;refine Xk6 ?_;exact⟨rfl,HL.below⟩
end
end Go.Proofs.YtkjjdgnkelchfaaGreat
