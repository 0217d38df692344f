import Derived.Test.YtkjjdgnkelchfaaGreatPNU16
set_option linter.unusedSimpArgs false
set_option linter.unusedVariables false
set_option maxRecDepth 100000
set_option maxHeartbeats 16000000
namespace Go.Proofs.YtkjjdgnkelchfaaGreat
open Go Go.RowKit Go.Proofs.Tryz
section
variable {α:Type}
def xcp(d:α)(es:List α)(i:Nat):List α:=(List.range es.length).map fun k=>if k<i∨es.length≤k+i then es.getD (es.length - 1 - k) d else es.getD k d
theorem xda(d:α)(es:List α)(i:Nat):(xcp d es i).length=es.length:=by simp[xcp]
theorem xey(d:α)(es:List α)(i k:Nat)(h:k<(xcp d es i).length):(xcp d es i)[k]=if k<i∨es.length≤k+i then es.getD (es.length - 1 - k) d else es.getD k d:=by simp[xcp]
theorem xre(d:α)(es:List α):xcp d es 0=es:=by
 apply List.ext_getElem (by rw[xda]);intro k h1 h2;rw[xey,if_neg (by omega)];simp[List.getD,h2]
theorem xu0(d:α)(es:List α)(i:Nat)(h:es.length≤2*i+1):xcp d es i=es.reverse:=by
 apply List.ext_getElem (by rw[xda,List.length_reverse]);intro k h1 h2;rw[xda] at h1;rw[xey,List.getElem_reverse];by_cases hc:k<i∨es.length≤k+i
 ·rw[if_pos hc]
  have h3:es.length - 1 - k<es.length:=by omega
  simp[List.getD,h3]
 ·rw[if_neg hc]
  have e:es.length - 1 - k=k:=by omega
  simp only[e];simp[List.getD,h1]
theorem xrf(d:α)(es:List α)(i j:Nat)(hj:j=es.length - 1 - i)(h:i<j)(hi:i<(xcp d es i).length)(hj2:j<(xcp d es i).length) :
  ((xcp d es i).set i (xcp d es i)[j]).set j (xcp d es i)[i]=xcp d es (i+1):=by
 apply List.ext_getElem (by simp[xda]);intro k h1 h2;rw[xda] at h2;rw[List.getElem_set,List.getElem_set,xey d es (i+1)];by_cases h3:j=k
 ·subst h3
  rw[if_pos rfl,xey,if_neg (by omega),if_pos (by omega)];congr 1;omega
 ·rw[if_neg h3]
  by_cases h4:i=k
  ·subst h4
   rw[if_pos rfl,xey,if_neg (by omega),if_pos (by omega)];congr 1
  ·rw[if_neg h4,xey]
   by_cases h5:k<i∨es.length≤k+i
   ·rw[if_pos h5,if_pos (by omega)]
   ·rw[if_neg h5,if_neg (by omega)]
end
section
variable {w w':World}
theorem xn4(g cap:Nat)(es:List D32)(tl:List Value)(w:World)(hb:Blk w g 23 (es.flatMap D32.c++tl))(hn:es.length≤cap)(h63:es.length≤140737488355328) :
  Calls prog 110 #[.slice (aS g) es.length cap] w fun e w'=>e=.returned (.tuple #[])∧Blk w' g 23 (es.reverse.flatMap D32.c++tl)∧Fr (· = g) w w':=by
 obtain⟨n,hN⟩:∃ n,es.length=n:=⟨_,rfl⟩;rw[hN] at hn h63 ⊢;have HN:=hZ hN;clear hN;have hf:Fr (· = g) w w:=Fr.refl _ _;have HI:Hid ((n:Int) - 1=(n:Int) - 1):=hZ rfl;obtain⟨w0,rfl⟩:=eW w;refine Xay ?_;intro HL;go_enter func110,ntmps110;go_upto_region 0 with fail;refine X12 ?_;refine xaa rfl _ (xb3 underlying29 _ rfl _ _ _ rfl) ?_;refine X6 ?_;refine xaa rfl _ (xa2 _ _ rfl _ _ _ rfl rfl HI.out (by omega)) ?_;refine X1g ?_;go_wp2_with fail;clear HL
 go_loopw [2,3] (fun x y wr=>∃ i:Nat,i≤n∧x=.int .i64 (i:Int)∧y=.int .i64 ((n:Int) - 1 - i)∧Blk wr g 23 ((xcp D32.z es i).flatMap D32.c++tl)∧Fr (· = g) w0 wr) (fun x _ _=>(n+1 - intOf x).toNat)
 case atStart=>exact⟨0,Nat.zero_le _,rfl,by simp,by rw[xre];exact hb,hf⟩
 case round =>
  clear hb hf;obtain⟨i,hi,rfl,rfl,hb,hf⟩:=hrel;obtain⟨w,rfl⟩:=eW wr;refine Xbi ?_;intro HL;by_cases hlt:2*i+1<n
  ·obtain⟨j,hj⟩:∃ j,n - 1 - i=j:=⟨_,rfl⟩
   have ej:(n:Int) - 1 - i=(j:Int):=by omega
   rw[ej];have k1:decide ((i:Int)<(j:Int))=true:=by simp;omega
   have hji:i<j:=by omega
   have hjn:j<n:=by omega
   refine Xb1 ?_;intro HI1;have HJ1:Hid ((j:Int) - 1=(n:Int) - 1 - ((i+1:Nat):Int)):=hZ (by omega);have hrl:(xcp D32.z es i).length=n:=by rw[xda,HN.out]
   have hst:=xrf D32.z es i j (by rw[HN.out];omega) hji (by omega) (by omega);have hxj:j<(xcp D32.z es i).length:=by omega
   have hxi:i<(xcp D32.z es i).length:=by omega
   have hil:i*32+32≤((xcp D32.z es i).flatMap D32.c++tl).length:=by rw[List.length_append,xaw D32.cl,hrl];omega
   have Hj:=xcb D32.cl (xcp D32.z es i) tl j hxj;have Hi:=xcb D32.cl (xcp D32.z es i) tl i hxi;have HS1:=xci D32.cl (xcp D32.z es i) tl i (xcp D32.z es i)[j] hxi;have HS2:=xci D32.cl ((xcp D32.z es i).set i (xcp D32.z es i)[j]) tl j (xcp D32.z es i)[i] (by rw[List.length_set];exact hxj);rw[hst] at HS2;have hjl:j*32+32≤(((xcp D32.z es i).set i (xcp D32.z es i)[j]).flatMap D32.c++tl).length:=by rw[List.length_append,xaw D32.cl,List.length_set,hrl];omega
   generalize (xcp D32.z es i)[j]=xj at *;generalize (xcp D32.z es i)[i]=xi at *;go_upto_region 1 with fail;refine X19 ?_;refine xaa rfl _ (xax _ _ rfl _ _ rfl rfl k1) ?_;refine X1z ?_;go_upto_region 3 with fail;replace hb:=hb.drew;replace hf:=hf.drew;refine rB (Loc.P HL) [] [7,11,13,14,15] [0,1,2,3,4,5,6,8,9,10] 6 ?_;refine X3v ?_;intro HL;refine X3u ?_;refine X3u ?_;refine xab rfl rfl HL (fun W hW=>xap sl29 _ _ rfl g n cap j .i64 rfl rfl hjn) ?_;refine X71 ?_;refine Xfw ?_;refine X6 ?_;refine xcz [7,11] (by kernel_rfl) ?_;refine X4 ?_;refine⟨⟨rfl,?_⟩,⟨rfl,?_⟩,trivial⟩
   ·intro K hK
    refine xbj (xbi ag23 _ rfl g (j*32) 23 _ _ rfl hb Hj (D32.cl _)) ?_;refine X3x ?_;clear hK K;refine xbk [11,12,13,14,15] 0 (by kernel_rfl) ?_;refine Xbl ?_;intro K hK;refine xbj (xbi ag23 _ rfl g (i*32) 23 _ _ rfl hb Hi (D32.cl _)) ?_;refine X3x ?_;clear hK K;refine Xfw ?_;refine Xfx ?_;intro K hK;intro w2 hb2 hg2 _;rw[HS1] at hb2;have hf2:=hf.grown hg2 (fun k hk=>.inl (by cases hk;rfl));refine Xbo ?_;clear hK K;intro HL2;clear HL hb hf;have HL:=HL2;have hb:=hb2;have hf:=hf2;clear HL2 hb2 hf2;refine Xg ?_;intro K hK;refine xbj (xap sl29 _ _ rfl g n cap j .i64 rfl rfl hjn) ?_;refine X3y ?_;clear hK K;intro K hK;refine xbe ag23.i _ _ rfl g (j*32) 23 _ _ rfl rfl hb (D32.cl _) hjl (D32.c1 _) ?_;intro w2 hb2 hg2 _;rw[HS2] at hb2;have hf2:=hf.grown hg2 (fun k hk=>.inl (by cases hk;rfl))
    refine Xbo ?_;clear hK K;intro HL2;clear HL hb hf;have HL:=HL2;have hb:=hb2;have hf:=hf2;clear HL2 hb2 hf2;refine Xa ?_;go_upto_region 2 with fail;refine Xb7 ?_;refine X15 ?_;refine Xbp ?_;refine X1g ?_;go_wp2_with fail;go_roundw
    case rel=>exact⟨i+1,by omega,rfl,rfl,hb,hf⟩
    case measure=>simp[intOf]<;>omega
   ·intro K hK
    refine xbj (xbi ag23 _ rfl g (i*32) 23 _ _ rfl hb Hi (D32.cl _)) ?_;refine X3x ?_;clear hK K;refine xbk [7,12,13,14,15] 0 (by kernel_rfl) ?_;refine Xbl ?_;intro K hK;refine xbj (xbi ag23 _ rfl g (j*32) 23 _ _ rfl hb Hj (D32.cl _)) ?_;refine X3x ?_;clear hK K;refine Xfw ?_;refine Xfx ?_;intro K hK;intro w2 hb2 hg2 _;rw[HS1] at hb2;have hf2:=hf.grown hg2 (fun k hk=>.inl (by cases hk;rfl));refine Xbo ?_;clear hK K;intro HL2;clear HL hb hf;have HL:=HL2;have hb:=hb2;have hf:=hf2;clear HL2 hb2 hf2;refine Xg ?_;intro K hK;refine xbj (xap sl29 _ _ rfl g n cap j .i64 rfl rfl hjn) ?_;refine X3y ?_;clear hK K;intro K hK;refine xbe ag23.i _ _ rfl g (j*32) 23 _ _ rfl rfl hb (D32.cl _) hjl (D32.c1 _) ?_;intro w2 hb2 hg2 _;rw[HS2] at hb2;have hf2:=hf.grown hg2 (fun k hk=>.inl (by cases hk;rfl))
    refine Xbo ?_;clear hK K;intro HL2;clear HL hb hf;have HL:=HL2;have hb:=hb2;have hf:=hf2;clear HL2 hb2 hf2;refine Xa ?_;go_upto_region 2 with fail;refine Xb7 ?_;refine X15 ?_;refine Xbp ?_;refine X1g ?_;go_wp2_with fail;go_roundw
    case rel=>exact⟨i+1,by omega,rfl,rfl,hb,hf⟩
    case measure=>simp[intOf]<;>omega
  ·have k1:decide ((i:Int)<(n:Int) - 1 - i)=false:=by simp;omega
   go_upto_region 1 with fail;refine X19 ?_;refine xaa rfl _ (xax _ _ rfl _ _ rfl rfl k1) ?_;refine X1z ?_;go_wp2_with fail
   go_end0
   exact⟨rfl,by rw[← xu0 D32.z es i (by rw[HN.out];omega)];exact hb,hf⟩
end
section
variable {P:Program}{T E:TypeId}{w0 w1 w w':World}{D:Nat→Prop}{L L0 L1 G:BL}{o:Oper}{a:Act}{K:Act→World→Prop}{Q:Exit→Act→World→Prop}
end
section
variable {w w':World}
end
theorem xn5{P:Program}{fn:Func}{p q u:Tmp}{ty n:Nat}(h:fn.results=#[.cell p ty,.tmp q,.tmp u])(B:AT P ty n)(tmps:Array Value)(w:World)(g t:Nat)(vs:List Value)
  (hp:tmps.getD p undef=.pointer (some ⟨g,0,none⟩)) (hb:Blk w g t vs) (hn:vs.length=n):(results fn tmps).run P w=.ok (.tuple #[.agg vs.toArray,tmps.getD q undef,tmps.getD u undef]) w:=by
 obtain⟨d,hu,hd⟩:=B.u;have e1:=run_loadVar_row w g t ty vs.toArray (0,0) d hb hu (by clear hb;cases d<;>simp_all) (by rw[B.i];simp[hn]);rw[Array.getD_eq_getD_getElem?] at hp;simp only[results,h];simp[Sem.run_bind,Result.andThen,hp,asAddr,e1]
section
variable {w w':World}
end
section
variable {w w':World}
end
section
variable {w w':World}
end
section
variable {w0 w w':World}{D:Nat→Prop}{A B B':BL}
theorem Loc.lend(H:Loc w0 D (A++B) w):Loc w (Rest w B) B w:=(H.drop B (sA _ _)).redo (Fr.refl (fun _=>False) _) (fun _ _ h=>h)
theorem Loc.merge(H:Loc w0 D (A++B) w)(R:Loc w (Rest w B) B' w'):Loc w0 D (A++B') w':=by
 obtain⟨p1,p2,p3⟩:=List.pairwise_append.1 H.nd;have hD:∀ k,D k→Rest w B k:=fun k hk=>⟨H.lt hk,fun x hx e=>(H.own x (List.mem_append.2 (.inr hx))).1 (by rw[e];exact hk)⟩
 have hA:∀ x∈A,Rest w B x.1:=fun x hx=>⟨(H.own x (List.mem_append.2 (.inl hx))).2.lt,fun y hy e=>p3 x hx y hy e.symm⟩
 refine⟨⟨R.fr.os.trans H.fr.os,R.fr.tape.trans H.fr.tape,R.fr.output.trans H.fr.output,Nat.le_trans H.fr.size R.fr.size,fun k hk hn=>?_⟩,?_,?_,H.old⟩
 ·have h1:D k:=Classical.not_not.1 hn
  exact(R.heap (hD k h1)).trans (H.heap h1)
 ·intro x hx
  rcases List.mem_append.1 hx with hx | hx
  ·have h2:=H.own x (List.mem_append.2 (.inl hx))
   exact⟨h2.1,R.far (hA x hx) h2.2⟩
  ·have h2:=R.own x hx
   exact⟨fun hd=>h2.1 (hD _ hd),h2.2⟩
 ·refine List.pairwise_append.2 ⟨p1,R.nd,fun x hx y hy e=>?_⟩
  have h2:=(R.own y hy).1;rw[← e] at h2;exact h2 (hA x hx)
end
def xcg(b:Brv):Bool:=if b.kind=0∨b.kind=2 then xpv b ⟨b.kind,D32.z,D32.z,D32.z⟩ else if b.kind=1 then b.dig.l==D32.z.l else if b.kind=3 then xpv b ⟨3,D32.z,D32.z,b.dig⟩ else false
theorem xjd(b:Brv)(w:World):Calls prog 166 #[.agg b.cells.toArray] w (oB w (.bool (xcg b))):=by
 obtain⟨w0,rfl,HL⟩:=lS w;obtain⟨r,hr⟩:∃ r,xcg b=r:=⟨_,rfl⟩;rw[hr];unfold xcg at hr;by_cases h0:b.kind=0
 ·rw[if_pos (.inl h0)] at hr
  have k0:((b.kind:Int)==0)=true:=by rw[h0];rfl
  clear h0;go_enter func166,ntmps166;go_upto_region 0 with fail;refine Xt ?_;refine Xfy ?_;clear HL;intro g1 w HL;go_upto_region 1 with fail;refine Xg1 ?_;go_upto_region 2 with fail;refine Xt ?_;refine xaa rfl _ (xao (b:=true) _ _ rfl _ _ rfl rfl k0) ?_;refine X1a ?_;go_upto_region 4 with fail;refine Xt ?_;refine Xg2 ?_;refine X6 ?_;refine Xfz ?_;refine X6 ?_;refine xaa rfl _ (xbp xi7 _ rfl _ (by exact xkq _)) ?_;refine X6 ?_;refine Xg3 ?_;go_wp2_with fail;go_ret;exact⟨rfl,HL.below⟩
 have k0:((b.kind:Int)==0)=false:=nB (by omega);by_cases h2:b.kind=2
 ·rw[if_pos (.inr h2)] at hr
  have k2:((b.kind:Int)==2)=true:=by rw[h2];rfl
  clear h0 h2;go_enter func166,ntmps166;go_upto_region 0 with fail;refine Xt ?_;refine Xfy ?_;clear HL;intro g1 w HL;go_upto_region 1 with fail;refine Xg1 ?_;go_upto_region 2 with fail;refine Xd1 ?_;go_upto_region 3 with fail;refine Xt ?_;refine Xg4 ?_;refine X1a ?_;go_upto_region 4 with fail;refine Xt ?_;refine Xg2 ?_;refine X6 ?_;refine Xfz ?_;refine X6 ?_;refine xaa rfl _ (xbp xi7 _ rfl _ (by exact xkq _)) ?_;refine X6 ?_;refine Xg3 ?_;go_wp2_with fail;go_ret;exact⟨rfl,HL.below⟩
 have k2:((b.kind:Int)==2)=false:=nB (by omega);rw[if_neg (by omega)] at hr;by_cases h1:b.kind=1
 ·rw[if_pos h1] at hr
  have k1:((b.kind:Int)==1)=true:=by rw[h1];rfl
  clear h0 h2 h1;go_enter func166,ntmps166;go_upto_region 0 with fail;refine Xt ?_;refine Xfy ?_;clear HL;intro g1 w HL;go_upto_region 1 with fail;refine Xg1 ?_;go_upto_region 2 with fail;refine Xd1 ?_;go_upto_region 3 with fail;refine Xg5 ?_;go_upto_region 5 with fail;refine Xt ?_;refine Xg6 ?_;refine X1a ?_;go_upto_region 6 with fail;refine Xt ?_;refine Xg7 ?_;refine X6 ?_;refine Xg8 ?_;refine X6 ?_;refine Xg9 ?_;refine X6 ?_;refine xaa rfl _ (xd1 ab25 _ _ rfl b.dig D32.z rfl rfl r hr) ?_;refine X1a ?_;go_wp2_with fail;go_ret;exact⟨rfl,HL.below⟩
 have k1:((b.kind:Int)==1)=false:=nB (by omega);rw[if_neg h1] at hr;by_cases h3:b.kind=3
 ·rw[if_pos h3] at hr
  have k3:((b.kind:Int)==3)=true:=by rw[h3];rfl
  clear h0 h2 h1 h3;go_enter func166,ntmps166;go_upto_region 0 with fail;refine Xt ?_;refine Xfy ?_;clear HL;intro g1 w HL;go_upto_region 1 with fail;refine Xg1 ?_;go_upto_region 2 with fail;refine Xd1 ?_;go_upto_region 3 with fail;refine Xg5 ?_;go_upto_region 5 with fail;refine Xd3 ?_;go_upto_region 7 with fail;refine Xt ?_;refine xaa rfl _ (xao (b:=true) _ _ rfl _ _ rfl rfl k3) ?_;refine X1a ?_;go_upto_region 8 with fail;refine Xt ?_;refine Xg2 ?_;refine X6 ?_;refine Xg7 ?_;refine X6 ?_;refine Xg8 ?_;refine X6 ?_;refine xaa rfl _ (xbp xi7 _ rfl _ (by exact xkr _)) ?_;refine X6 ?_;refine xaa rfl _ (xk4 _ _ rfl b ⟨3,D32.z,D32.z,b.dig⟩ rfl rfl r hr) ?_;refine X1a ?_;go_wp2_with fail;go_ret;exact⟨rfl,HL.below⟩
 have k3:((b.kind:Int)==3)=false:=nB (by omega);rw[if_neg h3] at hr;subst hr;clear h0 h2 h1 h3;go_enter func166,ntmps166;go_upto_region 0 with fail;refine Xt ?_;refine Xfy ?_;clear HL;intro g1 w HL;go_upto_region 1 with fail;refine Xg1 ?_;go_upto_region 2 with fail;refine Xd1 ?_;go_upto_region 3 with fail;refine Xg5 ?_;go_upto_region 5 with fail;refine Xd3 ?_;go_upto_region 7 with fail;refine Xt ?_;refine xaa rfl _ (xao (b:=false) _ _ rfl _ _ rfl rfl k3) ?_;refine X1a ?_;go_upto_region 9 with fail;refine X1j ?_;go_wp2_with fail;go_ret;exact⟨rfl,HL.below⟩
section
variable {w w':World}
end
structure BrS (w:World)(v:Sv)(bs:List Brv):Prop where
 rd:Rd w v.A (bs.flatMap Brv.cells)
 len:bs.length=v.n
 cap:v.n≤v.c
 k:∀ b∈bs,b.kind<256
theorem BrS.below{w w':World}{v:Sv}{bs:List Brv}(h:BrS w v bs)(hb:Bw w w'):BrS w' v bs:=⟨h.rd.below hb,h.len,h.cap,h.k⟩
theorem BrS.at_{w:World}{v:Sv}{bs:List Brv}(h:BrS w v bs)(i:Nat)(hi:i<bs.length):∃ ad,v.A=some ad∧Rd w (some (ad.add (i*97))) bs[i].cells:=by
 obtain⟨ad,e,_⟩:=h.rd (by rw[xaw Brv.len];omega);refine⟨ad,e,?_⟩;have h2:=h.rd.cut (i*97) 97;rw[e] at h2;have h3:=xcb (f:=Brv.cells) Brv.len bs [] i hi;rw[List.append_nil] at h3;rw[h3] at h2;exact h2
theorem BrS.keep{D:Nat→Prop}{L:BL}{w1 w:World}{v:Sv}{bs:List Brv}(h:BrS w1 v bs)(H:Loc w1 D L w)(hD:∀ ad,v.A=some ad→ad.block<w1.heap.size→D ad.block):BrS w v bs:=⟨Rd.keep0 h.rd H hD,h.len,h.cap,h.k⟩
abbrev mval(v:Sv):Value:=.agg [Sv.v v].toArray
section
variable {w w':World}
end
section
variable {P:Program}{w:World}{a:Act}{o:Oper}{t t':TypeId}
end
section
variable {w w':World}
end
section
variable {w w':World}
end
section
variable {w w':World}
end
def rdrC(a:Sv)(e:D32)(b:Sv):List Value:=[a.v]++(e.c++([b.v]))
theorem xem(a:Sv)(e:D32)(b:Sv):(rdrC a e b).length=34:=by simp[rdrC,D32.cl]
theorem xn6(a:Sv)(e:D32)(b:Sv):(rdrC a e b)[0]? = some a.v:=rfl
theorem rdrC_1(a:Sv)(e:D32)(b:Sv):((rdrC a e b).drop 1).take 32=e.c:=by
 have h:=xr5 [a.v] e.c [b.v] 32 (D32.cl _);simpa[rdrC] using h
theorem xrg(a:Sv)(e:D32)(b:Sv):(rdrC a e b)[33]? = some b.v:=by
 unfold rdrC;rw[← List.append_assoc,List.getElem?_append_right (by simp[D32.cl])];simp[D32.cl]
theorem xe9(a a':Sv)(e:D32)(b:Sv):(rdrC a e b).set 0 a'.v=rdrC a' e b:=rfl
structure KyS (w:World)(A:Option Addr)(n c:Nat)(ks:List D32):Prop where
 rd:Rd w A (ks.flatMap D32.c)
 len:ks.length=n
 cap:n≤c
theorem KyS.below{w w':World}{A:Option Addr}{n c:Nat}{ks:List D32}(h:KyS w A n c ks)(hb:Bw w w'):KyS w' A n c ks:=⟨h.rd.below hb,h.len,h.cap⟩
theorem KyS.at_{w:World}{A:Option Addr}{n c:Nat}{ks:List D32}(h:KyS w A n c ks)(i:Nat)(hi:i<ks.length):∃ ad,A=some ad∧Rd w (some (ad.add (i*32))) ks[i].c:=by
 obtain⟨ad,e,_⟩:=h.rd (by rw[xaw D32.cl];omega);refine⟨ad,e,?_⟩;have h2:=h.rd.cut (i*32) 32;rw[e] at h2;have h3:=xcb (f:=D32.c) D32.cl ks [] i hi;rw[List.append_nil] at h3;rw[h3] at h2;exact h2
theorem KyS.cut{w:World}{A:Option Addr}{n c:Nat}{ks:List D32}(h:KyS w A n c ks)(lo hi:Nat)(h1:lo≤hi)(h2:hi≤n):KyS w (cutA A c lo 32) (hi - lo) (c - lo) ((ks.drop lo).take (hi - lo)):=by
 refine⟨?_,by rw[List.length_take,List.length_drop,h.len];omega,by have:=h.cap;omega⟩;have h3:=h.rd.cutA (c:=c) (lo:=lo) (z:=32) (by rw[xaw D32.cl,h.len];have:=h.cap;exact Nat.mul_le_mul_right _ this) ((hi - lo)*32)
 have e:((ks.flatMap D32.c).drop (lo*32)).take ((hi - lo)*32)=((ks.drop lo).take (hi - lo)).flatMap D32.c:=by
  have e1:ks.flatMap D32.c=(ks.take lo).flatMap D32.c++(ks.drop lo).flatMap D32.c:=by rw[← List.flatMap_append,List.take_append_drop]
  have hl:((ks.take lo).flatMap D32.c).length=lo*32:=xc5 D32.cl ks lo (by rw[h.len];omega);rw[e1,← hl,List.drop_left];have e2:(ks.drop lo).flatMap D32.c=((ks.drop lo).take (hi - lo)).flatMap D32.c++((ks.drop lo).drop (hi - lo)).flatMap D32.c:=by rw[← List.flatMap_append,List.take_append_drop]
  have hl2:(((ks.drop lo).take (hi - lo)).flatMap D32.c).length=(hi - lo)*32:=xc5 D32.cl _ _ (by rw[List.length_drop,h.len];omega);rw[e2,← hl2,List.take_left]
 rw[e] at h3;exact h3
def xbd(ks:List D32)(d:Nat):Nat:=(ks.takeWhile fun k=>!tb k.l d).length
theorem xen(ks:List D32)(d:Nat):xbd ks d≤ks.length:=(List.takeWhile_sublist _).length_le
theorem xh2(ks:List D32)(d n:Nat)(hn:n≤ks.length)(h:∀ (j:Nat)(hj:j<ks.length),j<n→tb ks[j].l d=false)(he:∀ hj:n<ks.length,tb ks[n].l d=true):xbd ks d=n:=by
 induction ks generalizing n with
 | nil=>simp at hn;subst hn;rfl
 | cons k ks ih =>
  unfold xbd
  cases n with
  | zero =>
   have:=he (by simp);simp only[List.getElem_cons_zero] at this;rw[List.takeWhile_cons,this];rfl
  | succ n =>
   have h0:=h 0 (by simp) (by omega);simp only[List.getElem_cons_zero] at h0;rw[List.takeWhile_cons,h0];have:=ih n (by simpa using hn) (fun j hj hjn=>by have:=h (j+1) (by simp;omega) (by omega);simpa using this) (fun hj=>by have:=he (by simp;omega);simpa using this);unfold xbd at this;simp[this]
inductive Wys (M:Nat):BL→List Prv→Prop
 | nil:Wys M [] []
 | cons {Gs G:BL} {xs:List Prv} {x:Prv} {ds:List D32} (h:Gw 23 32 G x.sides ds.length (ds.flatMap D32.c)) (hm:ds.length≤M) (hs:Wys M Gs xs):Wys M (G++Gs) (x::xs)
theorem Wys.mono{M N:Nat}{Gs:BL}{xs:List Prv}(h:Wys M Gs xs)(hm:M≤N):Wys N Gs xs:=by
 induction h with
 | nil=>exact .nil
 | cons h1 h2 _ ih=>exact .cons h1 (Nat.le_trans h2 hm) ih
theorem Wys.app{M:Nat}{Gs Hs:BL}{xs ys:List Prv}(h:Wys M Gs xs)(k:Wys M Hs ys):Wys M (Gs++Hs) (xs++ys):=by
 induction h with
 | nil=>exact k
 | @cons Gs G xs x ds h1 h2 hs ih =>
  rw[List.append_assoc];exact Wys.cons (G:=G) (x:=x) h1 h2 ih
theorem Wys.split{M:Nat}{Gs:BL}{xs:List Prv}(h:Wys M Gs xs)(i:Nat)(hi:i<xs.length):∃ (GA G GB:BL)(ys:List Prv)(x:Prv)(zs:List Prv)(ds:List D32),Gs=GA++(G++GB)∧xs=ys++(x::zs)∧ys.length=i∧Wys M GA ys∧Gw 23 32 G x.sides ds.length (ds.flatMap D32.c)∧ds.length≤M∧Wys M GB zs:=by
 induction h generalizing i with
 | nil=>simp at hi
 | @cons Gs G xs x ds h1 h2 hs ih =>
  cases i with
  | zero=>exact⟨[],G,Gs,[],x,xs,ds,rfl,rfl,rfl,.nil,h1,h2,hs⟩
  | succ i =>
   obtain⟨GA,G',GB,ys,x',zs,ds',e1,e2,e3,h4,h5,h6,h7⟩:=ih i (by simpa using hi);subst e1 e2 e3;exact⟨G++GA,G',GB,x::ys,x',zs,ds',by rw[List.append_assoc],rfl,rfl,.cons h1 h2 h4,h5,h6,h7⟩
theorem Wys.end_{M:Nat}{Gs:BL}{xs:List Prv}(h:Wys M Gs xs)(i:Nat)(hi:i<xs.length)(n:Nod):Wys M Gs (xs.set i (xs[i].setN n)):=by
 obtain⟨GA,G,GB,ys,x,zs,ds,rfl,rfl,rfl,h1,h2,h3,h4⟩:=h.split i hi;have e:(ys++x::zs).set ys.length ((ys++x::zs)[ys.length].setN n)=ys++(x.setN n)::zs:=by simp
 rw[e];exact h1.app (.cons (x:=x.setN n) h2 h3 h4)
section
variable {w w':World}
theorem xk5(A:Option Addr)(n c:Nat)(ks:List D32)(d:Nat)(hd:d<256)(w:World)(h:KyS w A n c ks)(hn:n≤140737488351232) :
  Calls prog 139 #[.slice A n c,iV d] w (oB w (.int .i64 ((xbd ks d:Nat):Int))):=by
 have HT:=hZ h;have HLEN:=hZ h.len;clear h;obtain⟨w0,rfl,HL⟩:=lS w;obtain⟨pn,hpn⟩:∃ pn,xbd ks d=pn:=⟨_,rfl⟩;rw[hpn];have HPN:=hZ hpn;clear hpn;go_enter func139,ntmps139;go_upto_region 0 with fail;refine X1j ?_;go_upto_region 1 with fail;refine X1j ?_;go_wp2_with fail
 go_loopw [5] (fun z wr=>∃ i:Nat,i≤n∧z=.int .i64 (i:Int)∧(∀ (j:Nat)(hj:j<ks.length),j<i→tb ks[j].l d=false)∧Loc w0 (Old w0) [] wr) (fun z _=>(n - intOf z).toNat)
 case atStart=>exact⟨0,Nat.zero_le _,rfl,fun j hj h=>by omega,HL⟩
 case round =>
  clear HL;obtain⟨i,hi,rfl,hz,HL⟩:=hrel;obtain⟨w,rfl⟩:=eW wr;have HZ:=hZ hz;clear hz;by_cases hlt:i<n
  ·have k3:decide ((i:Int)<(n:Int))=true:=by simp;omega
   have hik:i<ks.length:=by have:=HLEN.out;omega
   obtain⟨ad,hA,hE⟩:=HT.out.at_ i hik;have HE:=hZ hE;refine Xan ?_;intro HSV;clear hE hA;have C:=fun u=>hZ (xih u ks[i] d hd)
   cases hb:tb ks[i].l d with
   | false =>
    rw[hb] at C;refine Xam ?_;intro HI;have HB:=hZ hb;clear hb;go_upto_region 2 with fail;refine Xgd ?_;refine X84 ?_;refine Xge ?_;refine X6 ?_;refine Xgf ?_;refine X5j ?_;intro K hK;refine X5e ?_;refine X4y ?_;clear hK K;intro w HL;refine Xgg ?_;go_upto_region 3 with fail;refine Xat ?_;go_wp2_with fail;go_roundw
    case rel =>
     refine⟨i+1,by omega,rfl,fun j hj h=>?_,HL⟩;by_cases hji:j=i
     ·subst hji;exact HB.out
     ·exact HZ.out j hj (by omega)
    case measure=>simp[intOf]<;>omega
   | true =>
    rw[hb] at C;have HB:=hZ hb;clear hb;go_upto_region 2 with fail;refine Xgd ?_;refine X84 ?_;refine Xge ?_;refine X6 ?_;refine Xgf ?_;refine X5j ?_;intro K hK;refine X5e ?_;refine X4y ?_;clear hK K;intro w HL;refine Xgh ?_;go_upto_region 4 with fail;refine X7v ?_;go_wp2_with fail;go_ret;exact⟨by rw[← HPN.out,xh2 ks d i (by omega) HZ.out (fun _=>HB.out)];rfl,HL.below⟩
  ·have k3:decide ((i:Int)<(n:Int))=false:=by simp;omega
   go_upto_region 2 with fail;refine Xgd ?_;refine Xak ?_;refine no_implicit_lambda% (X52 ?_);go_upto_region 4 with fail;refine X7v ?_;go_wp2_with fail;go_ret;exact⟨by rw[← HPN.out,xh2 ks d i (by have:=HLEN.out;omega) HZ.out (fun hj=>by have:=HLEN.out;omega)];rfl,HL.below⟩
end
end Go.Proofs.YtkjjdgnkelchfaaGreat
namespace Go.Proofs.YtkjjdgnkelchfaaGreat
open Go Go.RowKit Go.ChangeShapes Go.WideShapes Go.ChangeAt Go.Proofs.Tryz
section
variable {H:Type}{enc:TypeId×Value→H}{P:Program}{W:World}{base:Nat}
instance :Inhabited D32:=⟨D32.z⟩
theorem xu1{n:Nat}{T E:TypeId}{fuel:Nat}{cs:List Value}{x:DataW H×List MemPlace}(ht:P.underlying T=some (.array n E))(he:P.underlying E=some (.int .u8))(hc:P.cellsOf E=1)(hl:cs.length=n)
  (hf:DataW.trod enc P W 0 (fun _=>true) true fuel T cs=some x):∃ k:LU,k.length=n∧cs=bvs k:=by
 obtain⟨xs,m,_,_,_,hxl,hi⟩:=DataW.trod_array ht hf
 have hone:∀ i,i<n→∃ x:UInt8,cs[i]? = some (bv x):=by
  intro i hi';have h1:=hi i hi';rw[hc,Nat.mul_one,List.drop_eq_getElem_cons (by omega),List.take_succ_cons,List.take_zero,List.getElem?_eq_getElem (by omega)] at h1;obtain⟨z,hz,_,hw⟩:=DataW.trod_int he h1;injection hz with hz _;exact⟨_,by rw[List.getElem?_eq_getElem (by omega),hz,xi1 hw]⟩
 obtain⟨f,hfn⟩:=Deep.choose_lt hone;refine⟨(List.range n).map f,by simp,?_⟩;apply List.ext_getElem?;intro i;simp only[bvs,List.map_map,List.getElem?_map];by_cases h:i<n
 ·rw[hfn i h,List.getElem?_range h];rfl
 ·rw[List.getElem?_eq_none (by omega),List.getElem?_eq_none (by simp;omega)];rfl
theorem xu2{T E Q:TypeId}(ht:P.underlying T=some (.slice E))(hE:P.underlying E=some (.array 32 Q))(hQ:P.underlying Q=some (.int .u8))(cq:P.cellsOf Q=1)(cE:P.cellsOf E=32){v:Value}{d:DataW H}{p:List MemPlace}
  (hv:Value.okWide P W .any base T v) (h:DataW.Trod enc P W 0 (fun _=>true) true T v d p) :
  ∃ A n c ks,v=.slice A n c∧KyS W A n c ks:=by
 obtain⟨A,n,c,rfl⟩:=okWide_slice ht hv;obtain⟨fuel,hf⟩:=h;rcases Deep.open_slice ht hf with⟨hcs,hx⟩ | ⟨a,len,cap,m,k,D,Pl,hcs,_,hl,hm,hmm,hx,hi⟩
 ·simp[Value.cells] at hcs
  obtain⟨rfl,rfl,rfl⟩:=hcs;exact⟨none,0,0,[],rfl,⟨Rd.nil _ _,rfl,Nat.le_refl _⟩⟩
 ·simp[Value.cells] at hcs
  obtain⟨rfl,rfl,rfl⟩:=hcs;simp only[if_true] at hmm;subst m;rw[cE] at hi
  obtain⟨f,hfn⟩:=Deep.choose_lt (p:=fun i (l:D32)=>W.cells? 0 (a.add (i*32)) 32=some l.c) (n:=n) (fun i hin=>by
   obtain⟨cs',h1,h2⟩:=hi i (by omega);obtain⟨_,hlen,_⟩:=World.cells?_some h1;obtain⟨l,hl1,rfl⟩:=xu1 hE hQ cq hlen h2
   exact⟨⟨l,hl1⟩,h1⟩)
  refine⟨some a,n,c,(List.range n).map f,rfl,⟨fun _=>⟨a,rfl,fun j u hu=>?_⟩,by simp,hl⟩⟩
  have hj:j<n*32:=by
   have h1:=(List.getElem?_eq_some_iff.1 hu).1;rw[xaw D32.cl] at h1;simpa using h1
  have h2:=xii D32.cl ((List.range n).map f) [] (j / 32) (j%32) (by simp;omega) (Nat.mod_lt _ (by omega));rw[List.append_nil,show j / 32*32+j%32=j by omega,hu,List.getElem_map,List.getElem_range] at h2;have h1:=hfn (j / 32) (by omega);obtain⟨_,_,h3⟩:=World.cells?_some h1;have h4:=h3 (j%32) (Nat.mod_lt _ (by omega));rw[Deep.add_add,show j / 32*32+j%32=j by omega] at h4;rw[h4];exact h2.symm
end
end Go.Proofs.YtkjjdgnkelchfaaGreat
namespace Go.Proofs.YtkjjdgnkelchfaaGreat
open Go Go.RowKit Go.Proofs.Tryz
theorem xpw(s:LU)(hm:s.length≤maxLen)(w:World):Calls prog 121 #[.string ⟨s.toArray⟩] w fun e w'=>∃ b:Bool,e=.returned (.bool b)∧(b=true→s.length≤20)∧w=w':=by
 obtain⟨w0,rfl,HL⟩:=lS w;have hml:s.length≤9223372036854775807:=Nat.le_trans hm (by unfold maxLen;omega);by_cases h1:s.length<1
 ·have k1:decide ((s.length:Int)<1)=true:=by simp;omega
  go_enter func121,ntmps121;go_upto_region 0 with fail;refine X1j ?_;go_upto_region 1 with fail;refine X12 ?_;refine Xgi ?_;refine X6 ?_;refine Xgj ?_;refine X15 ?_;refine no_implicit_lambda% (X52 ?_);go_upto_region 2 with fail;refine X1j ?_;go_wp2_with fail;go_ret;exact⟨false,rfl,(fun h=>by cases h),rfl⟩
 have k1:decide ((s.length:Int)<1)=false:=by simp;omega
 by_cases h2:20<s.length
 ·have k2:decide ((s.length:Int)>20)=true:=by simp;omega
  go_enter func121,ntmps121;go_upto_region 0 with fail;refine X1j ?_;go_upto_region 1 with fail;refine X12 ?_;refine Xgi ?_;refine X6 ?_;refine Xgk ?_;refine X24 ?_;refine xac rfl _ (xgi underlying9 _ rfl s rfl) ?_;refine X6 ?_;refine xac rfl _ (xbq (b:=true) _ _ rfl _ _ rfl rfl k2) ?_;refine X28 ?_;go_upto_region 2 with fail;refine X1j ?_;go_wp2_with fail;go_ret;exact⟨false,rfl,(fun h=>by cases h),rfl⟩
 have k2:decide ((s.length:Int)>20)=false:=by simp;omega
 have H20:Hid (s.length≤20):=hZ (by omega);clear h1 h2 hm hml;go_enter func121,ntmps121;go_upto_region 0 with fail;refine X1j ?_;go_upto_region 1 with fail;refine X12 ?_;refine Xgi ?_;refine X6 ?_;refine Xgk ?_;refine X24 ?_;refine xac rfl _ (xgi underlying9 _ rfl s rfl) ?_;refine X6 ?_;refine xac rfl _ (xbq (b:=false) _ _ rfl _ _ rfl rfl k2) ?_;refine X28 ?_;go_upto_region 3 with fail;refine X12 ?_;refine Xgi ?_;refine X1e ?_;go_wp2_with fail;clear HL
 go_loopw [3,4,5,16] (fun _ _ _ z wr=>∃ i:Nat,i≤s.length∧z=.int .i64 (i:Int)∧w0=wr) (fun _ _ _ z _=>(s.length - intOf z).toNat)
 case atStart=>exact⟨0,Nat.zero_le _,rfl,rfl⟩
 case round=>as_aux_lemma =>
  obtain⟨i,hi,rfl,rfl⟩:=hrel;have HL:=Loc.start w0;by_cases hlt:i<s.length
  ·have k4:decide ((i:Int)<(s.length:Int))=true:=by simp;omega
   have HI1:Hid ((i:Int)+1=((i+1:Nat):Int)):=hZ (by have:=H20.out;omega);obtain⟨x,hx⟩:∃ x,s[i]=x:=⟨_,rfl⟩;have hv:((s[i]).toNat:Int)=(x.toNat:Int):=by rw[hx]
   have HIX:Hid (∀ (a:Act)(o:Oper),o.op=.index 9 (.tmp 19) (.tmp 20)→a.eval (.tmp 19)=.string ⟨s.toArray⟩→a.eval (.tmp 20)=.int .i64 (i:Int)→(execOp a.eval o).run prog w0=.ok (.value (.int .u8 (x.toNat:Int))) w0):=hZ (fun a o ho h1 h2=>by
    have:=xe1 (w:=w0) (a:=a) underlying9 _ _ ho s h1 .i64 i h2 hlt
    rwa [hv] at this)
   clear hv hx;obtain⟨z,hz⟩:∃ z,(x.toNat:Int)=z:=⟨_,rfl⟩;rw[hz] at HIX;clear hz;have HLT:=hZ hlt;clear hlt;go_upto_region 4 with fail;refine Xc1 ?_;go_upto_region 5 with fail;refine X7v ?_;go_upto_region 6 with fail;refine X19 ?_;refine xaa rfl _ (HIX.out _ _ rfl rfl rfl) ?_;refine X1a ?_;go_upto_region 7 with fail
   go_cut [5] from 22 to 28 (fun v wx=>∃ b:Bool,v=.bool b∧w0=wx)
   case first =>
    by_cases h7:z≥97
    ·have k7:decide (z≥97)=true:=decide_eq_true h7
     obtain⟨b,hb⟩:∃ b,decide (z≤122)=b:=⟨_,rfl⟩;clear h7;refine X12 ?_;refine xaa rfl _ (xce (b:=true) _ _ rfl _ _ rfl rfl k7) ?_;refine X24 ?_;refine xac rfl _ (xgf (b:=b) _ _ rfl _ _ rfl rfl hb) ?_;refine X82 ?_;go_wp2_with fail;go_meet
     case rel=>exact⟨b,rfl,rfl⟩
    ·have k7:decide (z≥97)=false:=decide_eq_false h7
     clear h7;refine X12 ?_;refine xaa rfl _ (xce (b:=false) _ _ rfl _ _ rfl rfl k7) ?_;refine X15 ?_;refine no_implicit_lambda% (X2c ?_);refine X1t ?_;go_wp2_with fail;go_meet
     case rel=>exact⟨false,rfl,rfl⟩
   case rest =>
    clear HL;obtain⟨b,rfl,rfl⟩:=hcut;have HL:=Loc.start w0;go_upto_region 8 with fail
    go_cut [45] from 28 to 46 (fun v wx=>∃ b:Bool,v=.bool b∧w0=wx)
    case first =>
     cases b with
     | true =>
      refine X5f ?_;refine no_implicit_lambda% (X2d ?_);refine no_implicit_lambda% (X2d ?_);refine no_implicit_lambda% (X2d ?_);refine no_implicit_lambda% (X2f ?_);go_wp2_with fail;go_meet
      case rel=>exact⟨_,rfl,rfl⟩
     | false =>
      by_cases h0:(i:Int)=0
      ·have k0:((i:Int)==0)=true:=by simpa using h0
       clear h0;refine X1o ?_;refine xac rfl _ (xao (b:=true) _ _ rfl _ _ rfl rfl k0) ?_;refine X26 ?_;refine no_implicit_lambda% (X2d ?_);refine no_implicit_lambda% (X2d ?_);refine no_implicit_lambda% (X2c ?_);refine X29 ?_;go_wp2_with fail;go_meet
       case rel=>exact⟨_,rfl,rfl⟩
      ·have k0:((i:Int)==0)=false:=by simpa using h0
       clear h0;by_cases h3:z=45
       ·have k3:(z==45)=true:=by simpa using h3
        clear h3;refine X1o ?_;refine Xgl ?_;refine Xgm ?_;refine xac rfl _ (xdq (b:=false) _ _ rfl _ _ rfl rfl k3) ?_;refine X26 ?_;refine no_implicit_lambda% (X2d ?_);refine no_implicit_lambda% (X2c ?_);refine X1s ?_;refine X29 ?_;go_wp2_with fail;go_meet
        case rel=>exact⟨_,rfl,rfl⟩
       ·have k3:(z==45)=false:=by simpa using h3
        clear h3;by_cases h4:z<48
        ·have k5:decide (z<48)=true:=decide_eq_true h4
         clear h4;refine X1o ?_;refine Xgl ?_;refine Xgn ?_;refine Xgm ?_;refine xac rfl _ (xax (b:=true) _ _ rfl _ _ rfl rfl k5) ?_;refine X26 ?_;refine no_implicit_lambda% (X2c ?_);refine X1s ?_;refine X1s ?_;refine X29 ?_;go_wp2_with fail;go_meet
         case rel=>exact⟨_,rfl,rfl⟩
        ·have k5:decide (z<48)=false:=decide_eq_false h4
         clear h4;obtain⟨b,hb⟩:∃ b,decide (57<z)=b:=⟨_,rfl⟩;refine X1o ?_;refine Xgl ?_;refine Xgn ?_;refine Xgm ?_;refine xac rfl _ (xax (b:=false) _ _ rfl _ _ rfl rfl k5) ?_;refine Xgm ?_;refine xac rfl _ (xbq (b:=b) _ _ rfl _ _ rfl rfl hb) ?_;refine X6 ?_;refine X1s ?_;refine X1s ?_;refine X29 ?_;go_wp2_with fail;go_meet
         case rel=>exact⟨_,rfl,rfl⟩
    case rest =>
     clear HL;obtain⟨b,rfl,rfl⟩:=hcut;have HL:=Loc.start w0
     cases b with
     | true =>
      go_upto_region 9 with fail;refine X1j ?_;go_wp2_with fail;go_ret;exact⟨false,rfl,(fun h=>by cases h),rfl⟩
     | false =>
      go_upto_region 10 with fail;refine Xt ?_;refine xaa rfl _ (xa6 _ _ rfl _ _ _ rfl rfl HI1.out (by have:=H20.out;have:=HLT.out;omega)) ?_;refine X1e ?_;go_wp2_with fail;go_roundw
      case rel=>exact⟨i+1,by have:=HLT.out;omega,rfl,trivial⟩
      case measure =>
       have:=HLT.out;simp[intOf]<;>omega
  ·have k4:decide ((i:Int)<(s.length:Int))=false:=by simp;omega
   go_upto_region 4 with fail;refine Xc1 ?_;go_upto_region 11 with fail;refine X1j ?_;go_wp2_with fail;go_ret;exact⟨true,rfl,fun _=>H20.out,rfl⟩
def AddV(D:Nat→Prop)(w:World)(gd gs g gv gm:Nat)(σ:Sb)(vs vf:Sv)(vl:List (LU×Int))(root:Int)(R:List Int)(s:LU)(e:Ending)(w':World):Prop :=
 (∃ r:Int,e=.returned (iV r)∧Bw w w')∨(s∉vl.map Prod.fst∧vl.length<16∧s.length≤20∧AddO D w gd gs g gv gm σ vs vf vl root R s e w')
def SnaV(D:Nat→Prop)(w:World)(gd gs g gv gm:Nat)(σ:Sb)(vs vf:Sv)(vl:List (LU×Int))(root:Int)(R:List Int)(s:LU)(e:Ending)(w':World):Prop :=
 (∃ r:Value,e=.returned r∧Bw w w')∨(s∉vl.map Prod.fst∧vl.length<16∧s.length≤20∧∃ (r:Value)(σ':Sb),e=.returned r∧DcV D w' gd gs g gv gm σ' vs vf (vl++[(s,root)]) root∧Stp (fun k=>D k∨k=gm) w (fun k=>D k∨k=gm) w'∧σ'.Inv (if root=0 then R else root::R) []∧σ.Stays σ'∧σ'.room=σ.room∧σ'.used=σ.used)
section
variable {D:Nat→Prop}{w w':World}{gd gs g gv gm:Nat}{σ:Sb}{vs vf:Sv}{vl:List (LU×Int)}{root:Int}
theorem AddV.ret{R:List Int}{s:LU}{e:Ending}(h:AddV D w gd gs g gv gm σ vs vf vl root R s e w'):∃ r:Int,e=.returned (iV r)∧Stp (fun k=>D k∨k=gm) w (fun k=>D k∨k=gm) w':=by
 rcases h with⟨r,h1,h2⟩ | ⟨_,_,_,σ',h1,_,h2,_⟩
 ·exact⟨r,h1,Stp.of_below h2⟩
 ·exact⟨0,h1,h2⟩
theorem vs_addV(h:DcV D w gd gs g gv gm σ vs vf vl root)(R:List Int)(hI:σ.Inv R [])(t:Tre)(ht:IsT σ root 0 t)(hRl:R.length≤536870912)(hnd:(vl.map Prod.fst).Nodup)(s:LU)(hs:s.length≤maxLen) :
  Calls prog 125 #[pG gv,.string ⟨s.toArray⟩,iV root] w (AddV D w gd gs g gv gm σ vs vf vl root R s):=by
 have HH:=hZ h;have hgv:Old w gv:=h.vb.lt;have hv0:=h.v0;have hv1:=h.v1;have HS:=hZ hs;have HT:=hZ ht
 obtain⟨kl,hkl⟩:=key9 ⟨s.toArray⟩ (by
  show s.toArray.size≤maxLen;have e:s.toArray.size=s.length:=by simp
  rw[e];exact hs)
 have HKL:=hZ hkl;have HKO:=hZ (xn1 h.short)
 obtain⟨lv,lo,hlk,hlo⟩:∃ (lv:Int)(lo:Bool),((((∀ p∈vsL vl,p.1≠.string ⟨s.toArray⟩)→Value.int .i64 lv=.int .i64 0∧lo=false)∧(∀ (j':Nat)(u:Value),(vsL vl)[j']? = some (.string ⟨s.toArray⟩,u)→Value.int .i64 lv=u∧lo=true)))∧(lo=false→s∉vl.map Prod.fst):=by
  by_cases hm:s∈vl.map Prod.fst
  ·obtain⟨x,hx,hxs⟩:=List.mem_map.1 hm
   obtain⟨j,hj,rfl⟩:=List.getElem_of_mem hx;refine⟨vl[j].2,true,⟨fun h=>absurd (by rw[hxs]) (h (.string ⟨(vl[j].1).toArray⟩,.int .i64 vl[j].2) (List.mem_map.2 ⟨_,hx,rfl⟩)),fun j' u h=>?_⟩,fun h=>by cases h⟩;obtain⟨z,h1,h2⟩:=xk2 h;have h3:j'=j:=xfm hnd (x:=s) (by rw[List.getElem?_map,h1];rfl) (by rw[List.getElem?_map,List.getElem?_eq_getElem hj,← hxs];rfl);subst h3;rw[List.getElem?_eq_getElem hj] at h1;injection h1 with h1;rw[h2,h1];exact⟨rfl,rfl⟩
  ·exact⟨0,false,⟨fun _=>⟨rfl,rfl⟩,fun j u h=>by
    obtain⟨z,h1,_⟩:=xk2 h
    exact absurd (List.mem_map.2 ⟨_,List.mem_of_getElem? h1,rfl⟩) hm⟩,fun _=>hm⟩
 have HLK:=hZ hlk;have HLO:=hZ hlo;obtain⟨b16,hb16⟩:∃ b,decide ((vl.length:Int)≥16)=b:=⟨_,rfl⟩;have HB16:=hZ hb16;have HM:=hZ (xpw s hs);have HE:Hid ((vsL vl).length=vl.length):=hZ (by simp[vsL]);have CH:∀ u,Bw w u→Hid (Calls prog 183 #[pG gv,iV root] u (HoldO D u gs g σ vs vf R root)):=fun u hu=>hZ (vs_hold (h.below hu) R hI root t ht hRl)
 clear h hI ht hs hkl hlk hlo hb16;obtain⟨w0,rfl,HL⟩:=lS w;go_enter func125,ntmps125;go_upto_region 0 with fail;refine X1j ?_;go_upto_region 1 with fail;refine X1v ?_;intro K hK;refine Xfn ?_;refine Xfo ?_;rintro e w ⟨rfl,rfl⟩;refine X20 ?_;clear hK K;go_upto_region 3 with fail;refine Xfq ?_;refine X15 ?_;refine xaa rfl _ (xfj (HH.out.mp.below HL.below) law9 underlying257 (xpo _) HKO.out HKL.out (.tmp 17) (.tmp 18) rfl rfl rfl (iV lv) lo HLK.out) ?_;refine Xca ?_;go_upto_region 4 with fail;refine X14 ?_;refine Xfr ?_;refine X6 ?_;refine Xfs ?_;refine X42 ?_;intro K hK;refine X7t ?_;refine X1w ?_;(with_reducible refine(xn2 (HH.out.st.below HL.below) HT.out).mono ?_);refine X7u ?_;clear hK K;intro w HL;go_upto_region 5 with fail;refine X1v ?_;intro K hK;refine xad cf121 rfl _ rfl ?_;refine X1w ?_
 (with_reducible refine(HM.out _).mono ?_);rintro e w ⟨bn,rfl,hbn,rfl⟩;have HBN:=hZ hbn;clear hbn;refine X5k ?_;clear hK K;refine X1t ?_
 cases bn with
 | false =>
  go_upto_region 6 with fail;refine X1j ?_;go_wp2_with fail;go_ret;exact .inl ⟨_,rfl,HL.below⟩
 | true =>
 have HS20:=hZ (HBN.out rfl);go_upto_region 7 with fail;refine Xev ?_;refine X1a ?_;go_upto_region 9 with fail;refine X7v ?_
 cases lo with
 | true =>
  go_upto_region 10 with fail;refine X1j ?_;go_wp2_with fail;go_ret;exact .inl ⟨_,rfl,HL.below⟩
 | false =>
 have HNO:=hZ (HLO.out rfl);go_upto_region 11 with fail;refine Xfq ?_;refine X6 ?_;refine xaa rfl _ (xja (HH.out.mp.below HL.below) underlying257 _ rfl rfl) ?_;refine X6 ?_;refine xaa rfl _ (xce (b:=b16) _ _ rfl _ _ rfl rfl (by rw[HE.out];exact HB16.out)) ?_;refine X1a ?_
 cases b16 with
 | true =>
  go_upto_region 12 with fail;refine X1j ?_;go_wp2_with fail;go_ret;exact .inl ⟨_,rfl,HL.below⟩
 | false =>
 have H16:Hid (vl.length<16):=hZ (by have:=of_decide_eq_false HB16.out;omega);go_upto_region 13 with fail;refine X2j ?_;intro K hK;refine xad cf183 rfl _ rfl ?_;refine X1w ?_;(with_reducible refine((CH _ HL.below).out).mono ?_);rintro e w ⟨σ2,rfl,hP2,hS2,hI2,hY2,hr2,hu2⟩;have HD2:=hZ ((HH.out.below HL.below).turned hS2 hP2);have HS2:Hid (Stp (fun k=>D k∨k=gm) w0 (fun k=>D k∨k=gm) w):=hZ ((Stp.of_below HL.below).trans (stp_or hS2));have HI2:=hZ hI2;have HY2:=hZ hY2;have HU2:=hZ (And.intro hr2 hu2);clear hP2 hS2 hI2 hY2 hr2 hu2;refine X2m ?_;clear hK K;go_upto_region 14 with fail;refine Xew ?_;clear HL CH;have HL:=Loc.start w;obtain⟨w2,rfl⟩:=eW w;have hgv2:Old w2 gv:=HD2.out.vb.lt;have hv12:=HD2.out.v1;go_upto_region 16 with fail;refine Xfp ?_
 refine xaa rfl _ (xa8 sc257 HL _ rfl _ rfl _ hgv2 hv12) ?_;refine Xee ?_;intro K hK;refine xl9 (key:=.string ⟨s.toArray⟩) (val:=iV root) HD2.out.mp law9 underlying257 HKO.out HKL.out (.tmp 54) (.tmp 55) (.tmp 56) rfl rfl rfl rfl (vsL_no HNO.out) ?_;intro w3 hM3 hg3;refine hK _ _ ?_;clear hK K;have HM3:=hZ hM3;have HG3:=hZ hg3;clear hM3 hg3 HL;have HL:=Loc.start w3;obtain⟨w,rfl⟩:∃ w,w=w3:=⟨_,rfl⟩;refine X17 ?_;go_upto_region 17 with fail;refine X1j ?_;go_wp2_with fail;go_ret;have hf:Fr (· = gm) w2 w:=(Fr.refl _ _).grown HG3.out (fun k hk=>.inl (by cases hk;rfl));have hd:=HD2.out
 refine .inr ⟨HNO.out,H16.out,HS20.out,σ2,rfl,⟨hd.blk.fr hf (fun e=>hd.mp.ne_blk hd.blk e.symm),hd.st.fr hf (fun k hk e=>hd.fm (by rw[← e];exact hk)),hd.vb.fr hf (fun e=>hd.mp.ne_blk hd.vb e.symm),by
  have:=HM3.out;rw[show vsL (vl++[(s,root)])=vsL vl++[(.string ⟨s.toArray⟩,iV root)] by simp[vsL]]
  exact this,hd.fd,hd.fv,hd.fm,fun x hx=>?_⟩,HS2.out.trans (Stp.of_fr hf (fun k hk=>.inr hk)),HI2.out,HY2.out,HU2.out.1,HU2.out.2⟩
 rcases List.mem_append.1 hx with hx | hx
 ·exact hd.short x hx
 ·rw[List.mem_singleton.1 hx];exact HS20.out
theorem xu3(s:LU)(hs:s.length≤maxLen)(g9:Nat)(hb:Blk w g9 9 [.string ⟨s.toArray⟩]):Calls prog 120 #[pG g9] w fun e w'=>∃ r:Int,e=.returned (iV r)∧w=w':=by
 have HM:=hZ (xpw s hs);have hO:Old w g9:=hb.lt;have hc:w.cell? ⟨g9,0,none⟩=some (.string ⟨s.toArray⟩):=by rw[hb.cell];rfl
 clear hs hb;obtain⟨w0,rfl,HL⟩:=lS w;go_enter func120,ntmps120;go_upto_region 0 with fail;refine X1j ?_;go_upto_region 1 with fail;refine Xt ?_;refine xaa rfl _ (xa8 sc9 HL _ rfl _ rfl _ hO hc) ?_;refine X50 ?_;intro K hK;refine xad cf121 rfl _ rfl ?_;refine X1w ?_;(with_reducible refine(HM.out _).mono ?_);rintro e w ⟨bn,rfl,hbn,rfl⟩;refine X1y ?_;clear hK K;refine X28 ?_
 cases bn with
 | false =>
  go_upto_region 2 with fail;refine X1j ?_;go_wp2_with fail;go_ret;exact⟨_,rfl,rfl⟩
 | true =>
  go_upto_region 3 with fail;refine X1j ?_;go_wp2_with fail;go_ret;exact⟨⟨_,rfl⟩,rfl⟩
theorem dc_roomV(h:DcV D w gd gs g gv gm σ vs vf vl root):Calls prog 124 #[pG gd] w fun e w'=>∃ r:Int,e=.returned (iV r)∧w=w':=by
 have HH:=hZ h;have hO:Old w gd:=h.blk.lt;have hc:=h.c0;obtain⟨b,hb⟩:∃ b,decide ((vl.length:Int)≥16)=b:=⟨_,rfl⟩;clear h;obtain⟨w0,rfl,HL⟩:=lS w;go_enter func124,ntmps124;go_upto_region 0 with fail;refine X1j ?_;go_upto_region 1 with fail;refine X14 ?_;refine Xgo ?_;refine X6 ?_;refine Xgp ?_;refine X6 ?_;refine xaa rfl _ (xa8 sc161 HL _ rfl _ rfl _ hO hc) ?_;refine X50 ?_;intro K hK;refine xad cf181 rfl _ rfl ?_;refine X1w ?_;(with_reducible refine(vs_len (HH.out.below HL.below)).mono ?_);rintro e w ⟨rfl,rfl⟩;refine X5k ?_;clear hK K;refine xaa rfl _ (xce (b:=b) _ _ rfl _ _ rfl rfl hb) ?_;refine X1z ?_
 cases b with
 | true =>
  go_upto_region 2 with fail;refine X1j ?_;go_wp2_with fail;go_ret;exact⟨_,rfl,rfl⟩
 | false =>
  go_upto_region 3 with fail;refine X1j ?_;go_wp2_with fail;go_ret;exact⟨_,rfl,rfl⟩
theorem xpx(gd gq g9:Nat)(hd:∀ u,Bw w u→Calls prog 123 #[pG gd] u fun e w'=>e=.returned (iV 0)∧u=w')(hr:∀ u,Bw w u→Calls prog 124 #[pG gd] u fun e w'=>∃ r:Int,e=.returned (iV r)∧u=w')
  (hf:∀ u,Bw w u→Calls prog 120 #[pG g9] u fun e w'=>∃ r:Int,e=.returned (iV r)∧u=w')
  (hb:Blk w gq 76 [.func (.func 123) #[pG gd] #[],.func (.func 120) #[] #[pG g9],.func (.func 124) #[pG gd] #[]]) :
  Calls prog 122 #[.slice (aS gq) 3 3] w fun e w'=>∃ r:Int,e=.returned (iV r)∧w=w':=by
 have hgq:Old w gq:=hb.lt;have HC:Hid (w.cell? ⟨gq,0*1,none⟩=some (.func (.func 123) #[pG gd] #[])∧w.cell? ⟨gq,1*1,none⟩=some (.func (.func 120) #[] #[pG g9])∧w.cell? ⟨gq,2*1,none⟩=some (.func (.func 124) #[pG gd] #[])):=hZ ⟨by rw[hb.cell];rfl,by rw[hb.cell];rfl,by rw[hb.cell];rfl⟩;have HCD:=hZ hd;have HCR:=hZ hr;have HCF:=hZ hf;clear hb hd hr hf;obtain⟨w0,rfl,HL⟩:=lS w;go_enter func122,ntmps122;go_upto_region 0 with fail;refine X1j ?_;go_upto_region 1 with fail;refine X12 ?_;refine xaa rfl _ (xam underlying286 _ rfl ⟨aS gq,3,3⟩ 3 rfl rfl) ?_;refine X1e ?_;go_wp2_with fail;refine wp_loop_rounds 4 ?_;rw[rounds_succ];go_upto_region 2 with fail;refine Xej ?_;go_upto_region 3 with fail;refine Xt ?_;refine xaa rfl _ (xap sl286 _ _ rfl gq 3 3 0 .i64 rfl rfl (by decide)) ?_;refine X6 ?_
 refine xaa rfl _ (xa8 sc76 HL _ rfl _ rfl _ hgq HC.out.1) ?_;refine X1a ?_;go_upto_region 4 with fail;refine X1v ?_;intro K hK;refine xiu cf123 rfl [pG gd] [] rfl _ rfl ?_;simp only[qk,ql,qu,qn];(with_reducible refine(HCD.out _ HL.below).mono ?_);rintro e w ⟨rfl,rfl⟩;refine X1y ?_;clear hK K;refine X10 ?_;go_upto_region 5 with fail;refine Xew ?_;go_upto_region 7 with fail;refine X6p ?_;go_wp2_with fail;rw[rounds_succ];go_upto_region 2 with fail;refine Xej ?_;go_upto_region 3 with fail;refine Xt ?_;refine xaa rfl _ (xap sl286 _ _ rfl gq 3 3 1 .i64 rfl rfl (by decide)) ?_;refine X6 ?_;refine xaa rfl _ (xa8 sc76 HL _ rfl _ rfl _ hgq HC.out.2.1) ?_;refine X1a ?_;go_upto_region 4 with fail;refine X1v ?_;intro K hK;refine xiu cf120 rfl [] [pG g9] rfl _ rfl ?_;simp only[qk,ql,qu,qn]
 (with_reducible refine(HCF.out _ HL.below).mono ?_);rintro e w ⟨r1,rfl,rfl⟩;refine X1y ?_;clear hK K;refine X10 ?_;obtain⟨b1,hb1⟩:∃ b,(r1==0)=b:=⟨_,rfl⟩;go_upto_region 5 with fail;refine X12 ?_;refine xaa rfl _ (xa9 (b:=!b1) _ _ rfl _ _ rfl rfl (by rw[hb1,Bool.not_not])) ?_;refine X1z ?_
 cases b1 with
 | false =>
  go_upto_region 6 with fail;refine X7v ?_;go_wp2_with fail;go_ret;exact⟨_,rfl,rfl⟩
 | true =>
 go_upto_region 7 with fail;refine X6p ?_;go_wp2_with fail;rw[rounds_succ];go_upto_region 2 with fail;refine Xej ?_;go_upto_region 3 with fail;refine Xt ?_;refine xaa rfl _ (xap sl286 _ _ rfl gq 3 3 2 .i64 rfl rfl (by decide)) ?_;refine X6 ?_;refine xaa rfl _ (xa8 sc76 HL _ rfl _ rfl _ hgq HC.out.2.2) ?_;refine X1a ?_;go_upto_region 4 with fail;refine X1v ?_;intro K hK;refine xiu cf124 rfl [pG gd] [] rfl _ rfl ?_;simp only[qk,ql,qu,qn];(with_reducible refine(HCR.out _ HL.below).mono ?_);rintro e w ⟨r2,rfl,rfl⟩;refine X1y ?_;clear hK K;refine X10 ?_;obtain⟨b2,hb2⟩:∃ b,(r2==0)=b:=⟨_,rfl⟩;go_upto_region 5 with fail;refine X12 ?_;refine xaa rfl _ (xa9 (b:=!b2) _ _ rfl _ _ rfl rfl (by rw[hb2,Bool.not_not])) ?_;refine X1z ?_
 cases b2 with
 | false =>
  go_upto_region 6 with fail;refine X7v ?_;go_wp2_with fail;go_ret;exact⟨_,rfl,rfl⟩
 | true =>
 go_upto_region 7 with fail;refine X6p ?_;go_wp2_with fail;rw[rounds_succ];go_upto_region 2 with fail;refine Xt ?_;refine Xeq ?_;go_upto_region 8 with fail;refine X1j ?_;go_wp2_with fail;go_ret;exact⟨_,rfl,rfl⟩
theorem dcv_snap(h:DcV D w gd gs g gv gm σ vs vf vl root)(R:List Int)(hI:σ.Inv R [])(t:Tre)(ht:IsT σ root 0 t)(hRl:R.length≤536870912)(s:LU)(hs:s.length≤maxLen)(hnd:(vl.map Prod.fst).Nodup) :
  Calls prog 72 #[pG gd,.string ⟨s.toArray⟩] w (SnaV D w gd gs g gv gm σ vs vf vl root R s):=by
 have HH:=hZ h;have hgd:Old w gd:=h.blk.lt;have hc0:=h.c0;have hc2:=h.c2;have HS:=hZ hs;have CAd:∀ u,Bw w u→Hid (Calls prog 125 #[pG gv,.string ⟨s.toArray⟩,iV root] u (AddV D u gd gs g gv gm σ vs vf vl root R s)):=fun u hu=>hZ (vs_addV (h.below hu) R hI t ht hRl hnd s hs)
 clear h hI ht hs;obtain⟨w0,rfl,HL⟩:=lS w;go_enter func72,ntmps72;go_upto_region 0 with fail;refine Xt ?_;refine lo_box1 rfl _ rfl HL (.string ⟨s.toArray⟩) rfl rfl ?_;clear HL;intro g3 w HL;refine X10 ?_;go_upto_region 1 with fail;refine Xt ?_;refine xaa rfl _ (xiv (.func 120) [] [.tmp 3] rfl [] [pG g3] rfl rfl) ?_;refine X1a ?_;go_upto_region 2 with fail;refine X12 ?_;refine xaa rfl _ (xiv (.func 123) [.tmp 8] [] rfl [pG gd] [] rfl rfl) ?_;refine Xd5 ?_;refine xaa rfl _ (xiv (.func 124) [.tmp 11] [] rfl [pG gd] [] rfl rfl) ?_;refine X50 ?_;intro K hK
 refine xeu sl286 el76 3 _ rfl HL [.func (.func 123) #[pG gd] #[],.func (.func 120) #[] #[pG g3],.func (.func 124) #[pG gd] #[]] (fun u hu=>by
  simp only[List.mem_cons,List.not_mem_nil,or_false] at hu
  rcases hu with rfl | rfl | rfl<;>rfl) rfl (by decide) (by decide) (by simp[Act.eval]) ?_
 clear HL;intro gq w HL;refine hK _ _ ?_;clear hK K;have CC:=hZ (xpx gd gq g3 (fun u hu=>xs6 ((HH.out.below HL.below).below hu).dc) (fun u hu=>dc_roomV ((HH.out.below HL.below).below hu)) (fun u hu=>xu3 s HS.out g3 ((HL.blk (.tail _ (.head _))).below hu (HL.blk (.tail _ (.head _))).lt)) (HL.blk (.head _)));refine Xu ?_;refine X1u ?_;intro K hK;refine xad cf122 rfl _ rfl ?_;refine X1w ?_;(with_reducible refine(CC.out).mono ?_);rintro e w ⟨rc,rfl,rfl⟩;refine X2m ?_;clear hK K;obtain⟨bc,hbc⟩:∃ b,(rc==0)=b:=⟨_,rfl⟩;go_upto_region 3 with fail;refine X12 ?_;refine xaa rfl _ (xa9 (b:=!bc) _ _ rfl _ _ rfl rfl (by rw[hbc,Bool.not_not])) ?_;refine X1z ?_;clear CC hbc
 cases bc with
 | false =>
  go_upto_region 4 with fail;refine X7v ?_;go_wp2_with fail;go_ret;exact .inl ⟨_,rfl,HL.below⟩
 | true =>
 have HB:=hZ HL.drew.below;have hgd3:Old w0 gd∧¬ (D gd∨gd=gm):=⟨hgd,fun h=>h.elim HH.out.fd (fun e=>HH.out.mp.ne_blk HH.out.blk e.symm)⟩;have HLT:=HH.out.lt;have HX:=HL.less (D':=fun k=>Old w0 k∧¬ (D k∨k=gm)) (fun k hk=>hk.1);have HA:Hid (∀ x∈[(gq,76,[Value.func (.func 123) #[pG gd] #[],.func (.func 120) #[] #[pG g3],.func (.func 124) #[pG gd] #[]]),(g3,9,[Value.string ⟨s.toArray⟩])],¬ (D x.1∨x.1=gm)):=hZ (fun x hx hk=>(HL.own x hx).1 (hk.elim (fun h=>HLT _ (.inl h)) (fun e=>HLT _ (.inr (.inr (.inr e))))));clear HL HLT;have HL:=HX;clear HX;go_upto_region 5 with fail;refine rB (Loc.P HL) [] [10] [0,1,2,3,4,5,6,7,8,9,10,11] 0 ?_;refine X3e ?_;intro HL;refine xab rfl rfl HL (fun W hW=>xaf xr9 _ rfl _ rfl) ?_;refine X6 ?_;refine xab rfl rfl HL (fun W hW=>xaf xr8 _ rfl _ rfl) ?_
 refine X6 ?_;refine xab rfl rfl HL (fun W hW=>xa8 sc161 hW _ rfl _ rfl _ hgd3 hc0) ?_;refine X6 ?_;refine xab rfl rfl HL (fun W hW=>xai sc9 hW _ rfl _ _ rfl _ _ (.string ⟨s.toArray⟩) (.tail _ (.head _)) rfl) ?_;refine Xfg ?_;refine xab rfl rfl HL (fun W hW=>xa8 sc3 hW _ rfl _ rfl _ hgd3 hc2) ?_;refine Xh ?_;intro K hK;refine xad cf125 rfl _ rfl ?_;refine X1w ?_;(with_reducible refine((CAd _ HB.out).out).mono ?_);rintro e w hadd;obtain⟨ra,rfl,hst⟩:=AddV.ret hadd;replace HL:=HL.frame hst.fr (fun k hk hd=>hd.2 hk) HA.out;have HADD:=hZ hadd;clear hadd hst;refine X5v ?_;clear hK K;refine X4p ?_;go_wp2_with fail;go_ret;rcases HADD.out with⟨r,_,hb⟩ | ⟨a1,a2,a3,σ2,e2,hD2,hS2,hI2,hY2,hr2,hu2⟩
 ·exact .inl ⟨_,rfl,HB.out.trans (hb.mono HB.out.size)⟩
 ·exact .inr ⟨a1,a2,a3,_,σ2,rfl,hD2,(Stp.of_below HB.out).trans hS2,hI2,hY2,hr2,hu2⟩
end
end Go.Proofs.YtkjjdgnkelchfaaGreat
