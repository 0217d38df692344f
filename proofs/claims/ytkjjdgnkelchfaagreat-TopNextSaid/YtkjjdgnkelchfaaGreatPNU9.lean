import Derived.Test.YtkjjdgnkelchfaaGreatPNU8
set_option linter.unusedSimpArgs false
set_option linter.unusedVariables false
set_option maxRecDepth 100000
set_option maxHeartbeats 16000000
namespace Go.Proofs.YtkjjdgnkelchfaaGreat
open Go Go.RowKit Go.Proofs.Tryz
section
variable {D:Nat→Prop}{w w':World}{gs g:Nat}{σ:Sb}{vs vf:Sv}
structure FitN (n:Nd)(d b:Nat):Prop where
 bit:(tb n.key.l d).toNat=b
 kind:n.kind=2→n.depth=(d:Int)+1
theorem fit_ok{n:Nd}{d b:Nat}(h:FitN n d b)(hd:d<256)(w:World):Calls prog 250 #[.agg n.cells.toArray,iV d,iV b] w (oB w (.bool true)):=fit_yes n d b hd h.bit h.kind
theorem xsp{n:Nd}{d:Nat}(h:FitN n d 0)(hd:d<256)(w:World):Calls prog 250 #[.agg n.cells.toArray,iV d,iV 0] w (oB w (.bool true)):=fit_ok h hd w
theorem xsq{n:Nd}{d:Nat}(h:FitN n d 1)(hd:d<256)(w:World):Calls prog 250 #[.agg n.cells.toArray,iV d,iV 1] w (oB w (.bool true)):=fit_ok h hd w
theorem xuj(l r:Nd)(d:Nat)(a b:Int)(hd:d<256)(ha:1≤a)(hb:1≤b)(hl:FitN l d 0)(hr:FitN r d 1)(hc:d≤comm l.key.l r.key.l) :
  Calls prog 242 #[iV d,iV a,iV b,.agg l.cells.toArray,.agg r.cells.toArray] w (oB w (.bool true)):=by
 have k1:(a==0)=false:=by simp;omega
 have k2:(b==0)=false:=by simp;omega
 have k3:decide (d≤comm l.key.l r.key.l)=true:=by simpa using hc
 have HLl:=hZ hl;have HRr:=hZ hr;have HL:=Loc.start w;have C:=fun u=>hZ (xkp u l.key r.key)
 generalize comm l.key.l r.key.l=cm at *;clear hl hr hc;go_enter func242,ntmps242;go_upto_region 0 with fail;refine Xt ?_;refine xcs rfl _ rfl HL _ rfl ?_;clear HL;intro g8 w HL;refine X6 ?_;refine xcs rfl _ rfl HL _ rfl ?_;clear HL;intro g9 w HL;refine X1a ?_;go_upto_region 1 with fail;refine X5f ?_;refine no_implicit_lambda% (X2c ?_);refine X1t ?_;go_upto_region 3 with fail;refine X5g ?_;go_upto_region 5 with fail;refine X5g ?_;go_upto_region 7 with fail;refine Xt ?_;refine xaa rfl _ (xbn xeo HL _ rfl _ rfl _ _ (.tail _ (.head _)) (Nd.len _)) ?_;refine X42 ?_;intro K hK;refine X5h ?_;(with_reducible refine(xsp HLl.out hd _).mono ?_);rintro e w ⟨rfl,hb'⟩;replace HL:=HL.next hb';clear hb';refine X1y ?_;clear hK K;refine X15 ?_;refine xac rfl _ (xbn xeo HL _ rfl _ rfl _ _ (.head _) (Nd.len _)) ?_
 refine X5j ?_;intro K hK;refine X5h ?_;(with_reducible refine(xsq HRr.out hd _).mono ?_);rintro e w ⟨rfl,hb'⟩;replace HL:=HL.next hb';clear hb';refine X5k ?_;clear hK K;refine X1l ?_;refine xac rfl _ (xaf xne _ rfl _ rfl) ?_;refine X6 ?_;refine xac rfl _ (xav ag24 HL _ rfl _ _ rfl _ _ _ (.tail _ (.head _)) (Nd.g_key _) (D32.cl _)) ?_;refine X6 ?_;refine xac rfl _ (xaf xne _ rfl _ rfl) ?_;refine X6 ?_;refine xac rfl _ (xav ag24 HL _ rfl _ _ rfl _ _ _ (.head _) (Nd.g_key _) (D32.cl _)) ?_;refine X6 ?_;refine X5i ?_;intro K hK;refine xad cf147 rfl _ rfl ?_;refine X1w ?_;refine X5d ?_;rintro e w ⟨rfl,hb'⟩;replace HL:=HL.next hb';clear hb';refine X5k ?_;clear hK K;refine X1m ?_;refine X1s ?_;refine X1t ?_;go_wp2_with fail;go_ret;exact⟨rfl,HL.below⟩
theorem xuk(l r:Nd)(d:Nat)(a:Int)(hd:d<256)(ha:1≤a)(hl:FitN l d 0)(h2:l.kind=2) :
  Calls prog 242 #[iV d,iV a,iV 0,.agg l.cells.toArray,.agg r.cells.toArray] w (oB w (.bool true)):=by
 have k1:(a==0)=false:=by simp;omega
 have k2:((l.kind:Int)==2)=true:=by rw[h2];rfl
 have HLl:=hZ hl;have HL:=Loc.start w;clear hl h2;go_enter func242,ntmps242;go_upto_region 0 with fail;refine Xt ?_;refine xcs rfl _ rfl HL _ rfl ?_;clear HL;intro g8 w HL;refine X6 ?_;refine xcs rfl _ rfl HL _ rfl ?_;clear HL;intro g9 w HL;refine X1a ?_;go_upto_region 1 with fail;refine X5f ?_;refine no_implicit_lambda% (X2c ?_);refine X1t ?_;go_upto_region 3 with fail;refine X5g ?_;go_upto_region 5 with fail;refine X5g ?_;go_upto_region 6 with fail;refine X4k ?_;refine xaa rfl _ (xai sc30 HL _ rfl _ _ rfl _ _ _ (.tail _ (.head _)) (Nd.g_kind _)) ?_;refine X51 ?_;refine xac rfl _ (xbn xeo HL _ rfl _ rfl _ _ (.tail _ (.head _)) (Nd.len _)) ?_;refine X5j ?_;intro K hK;refine X5h ?_;(with_reducible refine(xsp HLl.out hd _).mono ?_);rintro e w ⟨rfl,hb'⟩;replace HL:=HL.next hb';clear hb'
 refine X5k ?_;clear hK K;refine X1t ?_;go_wp2_with fail;go_ret;exact⟨rfl,HL.below⟩
theorem xqw(l r:Nd)(d:Nat)(b:Int)(hd:d<256)(hb:1≤b)(hr:FitN r d 1)(h2:r.kind=2) :
  Calls prog 242 #[iV d,iV 0,iV b,.agg l.cells.toArray,.agg r.cells.toArray] w (oB w (.bool true)):=by
 have k1:(b==0)=false:=by simp;omega
 have k2:((r.kind:Int)==2)=true:=by rw[h2];rfl
 have HRr:=hZ hr;have HL:=Loc.start w;clear hr h2;go_enter func242,ntmps242;go_upto_region 0 with fail;refine Xt ?_;refine xcs rfl _ rfl HL _ rfl ?_;clear HL;intro g8 w HL;refine X6 ?_;refine xcs rfl _ rfl HL _ rfl ?_;clear HL;intro g9 w HL;refine X1a ?_;go_upto_region 1 with fail;refine X1o ?_;refine X1s ?_;refine X1t ?_;go_upto_region 3 with fail;refine X5g ?_;go_upto_region 4 with fail;refine X4l ?_;refine X51 ?_;refine xac rfl _ (xbn xeo HL _ rfl _ rfl _ _ (.head _) (Nd.len _)) ?_;refine X5j ?_;intro K hK;refine X5h ?_;(with_reducible refine(xsq HRr.out hd _).mono ?_);rintro e w ⟨rfl,hb'⟩;replace HL:=HL.next hb';clear hb';refine X5k ?_;clear hK K;refine X1t ?_;go_wp2_with fail;go_ret;exact⟨rfl,HL.below⟩
end
abbrev xb9(key:D32)(val:LU)(x:Sv):Nd:=⟨tagL key (tagV val),1,-1,key,x,tagV val,0,0,1,1⟩
theorem xkt{w:World}{base:Nat}{v:Value}{l:LU}(h:OwnB w base 5 v l):∃ x:Sv,v=x.v∧l.length=x.n∧x.n≤x.c∧x.c≤maxLen∧Rd w x.A (bvs l)∧∀ ad,x.A=some ad→base≤ad.block∧ad.block<w.heap.size:=by
 obtain⟨A,c,e,h1,h2,h3⟩:=h.rd;rcases h with⟨rfl,rfl⟩ | ⟨g,sp,rfl,hg,hm,hb⟩
 ·exact⟨⟨none,0,0⟩,rfl,rfl,Nat.le_refl _,Nat.zero_le _,Rd.nil _ _,fun ad e=>by cases e⟩
 ·simp only[Value.slice.injEq] at e
  obtain⟨rfl,_,rfl⟩:=e;exact⟨⟨_,_,_⟩,rfl,rfl,h1,h2,h3,fun ad e=>by cases e;exact⟨hg,hb.lt⟩⟩
section
variable {D:Nat→Prop}{w w':World}{gs g:Nat}{σ:Sb}{vs vf:Sv}
def Dx(D:Nat→Prop)(x:Sv):Nat→Prop:=fun k=>D k∨∃ ad,x.A=some ad∧ad.block=k
def Took(D:Nat→Prop)(w:World)(gs g:Nat)(σ:Sb)(E:Sv→En)(e:Ending)(w':World):Prop :=
 ∃ D' vs' vf' x,e=.returned (.tuple #[iV (σ.next:Int),iV 0])∧StP D' w' gs g (σ.take (E x)) vs' vf'∧Stp D w D' w'
theorem xjv(h:StP D w gs g σ vs vf)(key:D32)(A:Option Addr)(n c:Nat)(val:LU)(hr:Rd w A (bvs val))(hl:val.length=n)(hcap:n≤c)(hmax:c≤maxLen)(hn:n≤1024)(hroom:σ.used<σ.room) :
  Calls prog 146 #[pG gs,key.a,.slice A n c] w (Took D w gs g σ fun x=>⟨xb9 key val x,1,val⟩):=by
 have HH:=hZ h;have hcs:=h.c;have hl':=hZ hl;have k1:decide (1024<n)=false:=by simpa using hn
 clear hl h;obtain⟨w0,rfl,HL⟩:=lS w;go_enter func146,ntmps146;go_upto_region 0 with fail;refine Xt ?_;refine xcs rfl _ rfl HL _ rfl ?_;clear HL;intro g4 w HL;refine X1g ?_;go_upto_region 1 with fail;refine X3z ?_;intro K hK;refine X5l ?_;rintro e w ⟨rfl,rfl⟩;refine X20 ?_;clear hK K;go_upto_region 3 with fail;refine X12 ?_;refine X5m ?_;refine X28 ?_;go_upto_region 5 with fail;refine X1v ?_;intro K hK;refine X5n ?_;(with_reducible refine(xjn _ A n c val (HL.rdO hr) hl'.out hcap hmax (by omega)).mono ?_);refine X4y ?_;clear hK K;intro w HL;refine X5o ?_;clear HL;intro g8 w HL;refine X5p ?_;refine X34 ?_;clear HL;intro w HL;go_upto_region 6 with fail;refine X12 ?_;refine xdd bt rfl _ _ rfl w0.heap.size (.slice none 0 0) [] rfl (OwnB.nil _ _ _) A n c val rfl hl'.out (HL.rdO hr) (by simp;omega) HL.fr.size ?_
 intro v1 w1 ho1 hg1 _;rw[List.nil_append] at ho1;obtain⟨x,rfl,hx1,hx2,hx3,hx4,hx5⟩:=xkt ho1;replace HL:=HL.next ((Below.refl _ _).grown hg1 (Nat.le_refl _) (by intro k hk;cases hk));clear hg1 ho1;have HX1:=hZ hx1;clear hx1;obtain⟨w,rfl⟩:∃ w,w=w1:=⟨_,rfl⟩;refine X10 ?_;refine X55 ?_;intro hB;refine X56 ?_;intro hgs;have hg4 : ¬ Old w0 g4:=(HL.own _ (.tail _ (.head _))).1;have hg8 : ¬ Old w0 g8:=(HL.own _ (.head _)).1;refine X5q ?_;intro hSO;have hVO:ValOk (Dx D x) w g vs vf x val:=⟨⟨HX1.out,hx2,hx3,hx4,fun ad e hk=>by have:=(hx5 ad e).1;have:=hSO _ hk;unfold Old at this;omega⟩,fun ad e=>.inr ⟨ad,e,rfl⟩⟩
 have hDx:∀ k,Dx D x k→k<w.heap.size:=by
  rintro k (hk | ⟨ad,e,rfl⟩)
  ·exact Nat.lt_of_lt_of_le (HH.out.sb.lt k hk) hB.size
  ·exact(hx5 ad e).2
 have hSB:SbP (Dx D x) w g σ vs vf:=(HH.out.sb.below hB).more (fun k hk=>.inl hk) hDx
 have hnew:∀ k,Dx D x k→D k∨w0.heap.size≤k:=by
  rintro k (hk | ⟨ad,e,rfl⟩)
  ·exact .inl hk
  ·exact .inr (hx5 ad e).1
 have HSB:=hZ hSB;have HVO:=hZ hVO;clear hSB hVO hx4 hx5 hx2 hx3;refine X57 ?_;intro HX;clear HL;have HL:=HX;clear HX;have HLE:Hid (xb9 key val x=xb9 key val x):=hZ rfl;obtain⟨w1,rfl⟩:=eW w;go_upto_region 7 with fail;refine rB (Loc.P HL) [] [6,12] [0,1,2,3,4,5,8,9,10,6,7,11,12,13,14,15,16] 0 ?_;refine X3e ?_;intro HL;refine X58 ?_;refine X6 ?_;refine X59 ?_;refine X6 ?_;refine X5r ?_;refine X6 ?_;refine X5s ?_;refine X6 ?_;refine X5r ?_;refine X3g ?_;refine X5s ?_;refine Xh ?_;intro K hK;refine X5t ?_;refine X1w ?_;(with_reducible refine(xig _ key (tagV val)).mono ?_);refine X43 ?_;intro w hb HL;refine X5u ?_;intro hB1;clear hb;refine X5v ?_;clear hK K;refine X5w ?_;refine X6 ?_;refine xab rfl rfl HL (fun W hW=>xbp bs230 _ rfl _ (by exact bd230_28 _ _ _ _)) ?_;refine Xh ?_;intro K hK
 refine X5x ?_;(with_reducible refine(xjr (HSB.out.below hB1) (xb9 key val x) val hroom (HVO.out.below hB1)).mono ?_);rintro e w ⟨D',vs',vf',rfl,hsb,hst,hf⟩
 replace HL:=HL.frame hf (fun k hk hd=>hd.2 hk) (by
  intro y hy e;simp at hy;rcases hy with rfl | rfl
  ·exact hg8 (hSO _ e)
  ·exact hg4 (hSO _ e))
 refine X5v ?_;clear hK K;refine X61 ?_;go_wp2_with fail;go_ret2;refine X62 ?_;intro hb2;refine⟨D',vs',vf',x,rfl,⟨hb2,hst.old _ (.inl HH.out.own),hsb⟩,?_⟩;have s1:Stp D w0 (Dx D x) w1:=⟨hnew,fun k hk=>.inl hk,Fr.of_below hB⟩;exact s1.trans ((Stp.of_below hB1).trans hst)
end
section
variable {P:Program}{T E:TypeId}{z b:Nat}{zv:Value}{w0 w:World}{D:Nat→Prop}{L:BL}{ops:Array Oper}{rest:List Oper}{o:Oper}{a:Act}{Q:Exit→Act→World→Prop}
theorem xul(B:ST P T E z)(I:ET P E zv z b)(hz:z≤10000)(hgd:o.guard=none)(x y:Operand)(ho:o.op=.buildSlice T 2 #[(0,x),(1,y)])(H:Loc w0 D L w)(cs ds:List Value)(hx:a.eval x=.agg cs.toArray)(hl:cs.length=z)(hy:a.eval y=.agg ds.toArray)(hm:ds.length=z)
  (h:∀ g w',Loc w0 D ((g,E,cs++ds)::L) w'→wpList P ops Q rest (a.put o.dst (.slice (aS g) 2 2)) w'):wpList P ops Q (o::rest) a w:=by
 obtain⟨i,hi,hzz,hsz,_⟩:=info_parts I.i;have hp:=I.p;refine X1 ?_;intro K hK;refine wp_buildSlice T E 2 _ ho (cs++ds).toArray i _ B.t hi hzz (by rw[hsz];omega) (by rw[hsz];omega) ?_ (hK _ _ (h _ _ (H.new E (cs++ds))));have h2:((#[(0,x),(1,y)]:Array (Nat×Operand)).map fun(i,x)=>(i,a.eval x)).toList=(([.agg cs.toArray,.agg ds.toArray]:List Value).zipIdx 0).map fun x=>(x.2,x.1):=by simp[hx,hy]
 rw[h2,hsz,Great.fill_whole hp _ _ ?_ ?_]
 ·simp[Value.cells]
 ·intro u hu
  simp at hu;rcases hu with rfl | rfl
  ·simpa[Value.cells] using hl
  ·simpa[Value.cells] using hm
 ·simp
end
theorem el353:ET prog 353 (.agg #[iV 0,.pointer none]) 2 16:=⟨by kernel_rfl,by decide,by decide⟩
section
variable {D:Nat→Prop}{w w':World}{gs g:Nat}{σ:Sb}{vs vf:Sv}
abbrev xco(d:Nat)(key dl dr:D32)(left right size:Int):Nd:=⟨tagI dl dr,2,d,xo8 key d false,Sv.nil,D32.z,left,right,size,1⟩
def Sb.by(σ:Sb)(i:Nat)(b:Int):Sb:={ σ with slots:=σ.slots.modify i fun e=>⟨{ e.nd with held:=e.nd.held+b },e.count,e.val⟩ }
theorem Sb.call_by(i:Nat)(hi:i<σ.slots.length)(b:Int):σ.call i hi b=σ.by i b:=by
 unfold Sb.call Sb.by Sb.put
 congr 1;apply List.ext_getElem (by simp);intro k h1 h2;rw[List.getElem_modify,List.getElem_set]
 split
 ·next e=>subst e;rfl
 ·rfl
structure Sb.Nice (σ:Sb):Prop where
 nd:σ.free.Nodup
 z:∀ n∈σ.free,∀ h:n - 1<σ.slots.length,σ.slots[n - 1].count=0
theorem xho(hN:σ.Nice)(i:Nat)(hi:i<σ.slots.length)(hc:σ.slots[i].count≠0)(e:En):∃ h:i<(σ.take e).slots.length,(σ.take e).slots[i]=σ.slots[i]:=by
 unfold Sb.take
 cases hl:σ.free.getLast? with
 | none =>
  simp only[Sb.takeN];refine⟨by simp;omega,?_⟩;rw[List.getElem_append_left hi]
 | some k =>
  simp only[Sb.takeF];refine⟨by simpa using hi,?_⟩;rw[List.getElem_set_ne];rintro rfl;exact hc (hN.z k (List.mem_of_getLast? hl) hi)
theorem by_at(i j:Nat)(b:Int)(hj:j<σ.slots.length)(hne:i≠j):∃ h:j<(σ.by i b).slots.length,(σ.by i b).slots[j]=σ.slots[j]:=by
 unfold Sb.by
 refine⟨by simpa using hj,?_⟩;simp[List.getElem_modify,hne]
theorem xik(D:Nat→Prop)(w:World)(g:Nat)(vs vf:Sv):ValOk D w g vs vf Sv.nil []:=⟨⟨rfl,Nat.le_refl _,Nat.zero_le _,Rd.nil _ _,fun ad e=>by cases e⟩,fun ad e=>by cases e⟩
def Goes(D:Nat→Prop)(w:World)(gs g:Nat)(r:Value)(σ':Sb)(e:Ending)(w':World):Prop:=∃ D' vs' vf',e=.returned r∧StP D' w' gs g σ' vs' vf'∧Stp D w D' w'
theorem xfa(h:StP D w gs g σ vs vf)(hN:σ.Nice)(d:Nat)(hd:d<256)(i:Nat)(left:Int)(eL:left=(i:Int)+1)(hi:i<σ.slots.length)(nl:Nd)(hnl:σ.slots[i].nd=nl)(hcl:σ.slots[i].count≠0)(hfl:FitN nl d 0)(hhl:0<nl.held∧nl.held≤4611686018427387904)(hsl:0≤nl.size∧nl.size≤1073741824)(j:Nat)(right:Int)(eR:right=(j:Int)+1)(hj:j<σ.slots.length)(nr:Nd)(hnr:σ.slots[j].nd=nr)(hcr:σ.slots[j].count≠0)(hfr:FitN nr d 1)(hhr:0<nr.held∧nr.held≤4611686018427387904)(hsr:0≤nr.size∧nr.size≤1073741824)(hne:i≠j)(hcm:d≤comm nl.key.l nr.key.l)(hroom:σ.used<σ.room) :
  Calls prog 210 #[pG gs,iV d,iV left,iV right] w (Goes D w gs g (.tuple #[iV (σ.next:Int),iV 0]) (((σ.take ⟨xco d nl.key nl.dig nr.dig left right (nl.size+nr.size),1,[]⟩).by i (-1)).by j (-1))):=by
 have HH:=hZ h;have hcs:=h.c;refine X63 ?_;intro GL HE;have k1:(left==0)=false:=by simp;omega
 have k3:(nl.held==0)=false:=by simp;omega
 have l1:1≤left:=by omega
 have HLl:=hZ l1;have HCl:=hZ hcl;have HFl:=hZ hfl;have HDl:=hZ hhl;have HSl:=hZ hsl;refine X64 ?_;intro GR HR;have k2:(right==0)=false:=by simp;omega
 have k4:(nr.held==0)=false:=by simp;omega
 have l2:1≤right:=by omega
 have HRr:=hZ l2;have HCr:=hZ hcr;have HFr:=hZ hfr;have HDr:=hZ hhr;have HSr:=hZ hsr;have HM:=hZ hcm;have k5:decide (255<d)=false:=by simp;omega
 clear h  eL hnl hcl hfl hhl hsl l1 eR hnr hcr hfr hhr hsr l2 hcm;obtain⟨w0,rfl,HL⟩:=lS w;go_enter func210,ntmps210;go_upto_region 0 with fail;refine X2y ?_;go_upto_region 1 with fail;refine X3z ?_;intro K hK;refine X5l ?_;rintro e w ⟨rfl,rfl⟩;refine X20 ?_;clear hK K;go_upto_region 3 with fail;refine X1o ?_;refine X29 ?_;go_upto_region 5 with fail;refine Xt ?_;refine X65 ?_;refine X6 ?_;refine X65 ?_;refine X6 ?_;refine xah xf4 rfl rfl HL ?_;clear HL;intro g10 w HL;refine X6 ?_;refine xah xf4 rfl rfl HL ?_;clear HL;intro g11 w HL;refine X2o ?_;refine X33 ?_;clear HL;intro w HL;refine X4b ?_;refine X34 ?_;clear HL;intro w HL;go_upto_region 6 with fail;refine X12 ?_;refine X66 ?_;refine X15 ?_;refine X66 ?_;refine X6 ?_;refine X67 ?_;clear HL;intro g33 w HL;refine Xu ?_;refine X68 ?_;refine X1e ?_;go_wp2_with fail
 refine X69 ?_;rw[rounds_succ];go_upto_region 7 with fail;refine X6a ?_;go_upto_region 8 with fail;refine Xt ?_;refine X6b ?_;refine X6 ?_;refine X6c ?_;refine X6d ?_;clear HL;intro g13 w HL;refine X6 ?_;refine X6e ?_;refine X34 ?_;clear HL;intro w HL;go_upto_region 9 with fail;refine Xt ?_;refine X6h ?_;go_upto_region 10 with fail;refine X12 ?_;refine X6g ?_;refine X50 ?_;intro K hK;refine X4g ?_;refine X6i ?_;refine X6j ?_;clear hK K;intro g14 w HL;go_upto_region 11 with fail;refine X6k ?_;refine X6 ?_;refine X6l ?_;go_upto_region 13 with fail;refine Xt ?_;refine X6m ?_;refine X6 ?_;refine X6n ?_;refine X6 ?_;refine X2r ?_;refine X16 ?_;refine X6o ?_;refine X34 ?_;clear HL;intro w HL;go_upto_region 14 with fail;refine X6p ?_;go_wp2_with fail;rw[rounds_succ];go_upto_region 7 with fail;refine X6a ?_;go_upto_region 8 with fail
 refine Xt ?_;refine X6q ?_;refine X6 ?_;refine xaa rfl _ (xav xl3 HL _ rfl _ _ rfl _ _ [iV right,pG g11] (.tail _ (.tail _ (.head _))) rfl rfl) ?_;refine X6d ?_;clear HL;intro g13 w HL;refine X6 ?_;refine X6e ?_;refine X34 ?_;clear HL;intro w HL;go_upto_region 9 with fail;refine Xt ?_;refine X6h ?_;go_upto_region 10 with fail;refine X12 ?_;refine X6g ?_;refine X50 ?_;intro K hK;refine X6r ?_;refine X6j ?_;clear hK K;intro g14 w HL;go_upto_region 11 with fail;refine X6k ?_;refine X6 ?_;refine X6l ?_;go_upto_region 13 with fail;refine Xt ?_;refine X6m ?_;refine X6 ?_;refine X6n ?_;refine X6 ?_;refine X2r ?_;refine X16 ?_;refine xbo xeo rfl _ _ rfl HL 5 _ _ _ _ rfl rfl rfl (Nd.len _) (Nd.len _) (Nd.one _) ?_;refine X34 ?_;clear HL;intro w HL;go_upto_region 14 with fail;refine X6p ?_;go_wp2_with fail;rw[rounds_succ]
 go_upto_region 7 with fail;refine X6a ?_;go_upto_region 15 with fail;refine X6s ?_;refine xaa rfl _ (xbn xeo HL _ rfl _ rfl _ _ (.tail _ (.tail _ (.tail _ (.tail _ (.tail _ (.tail _ (.head _))))))) (Nd.len _)) ?_;refine X6 ?_;refine X6t ?_;refine X50 ?_;intro K hK;refine xad cf242 rfl _ rfl ?_;refine X1w ?_;(with_reducible refine(xuj nl nr d left right hd HLl.out HRr.out HFl.out HFr.out HM.out).mono ?_);refine X6u ?_;clear hK K;intro w HL;go_upto_region 17 with fail;refine X4r ?_;refine xaa rfl _ (xav ag24 HL _ rfl _ _ rfl _ _ _ (.tail _ (.tail _ (.tail _ (.tail _ (.tail _ (.tail _ (.head _))))))) (Nd.g_key _) (D32.cl _)) ?_;refine X6 ?_;refine xah zr24 rfl rfl HL ?_;clear HL;intro g16 w HL;refine X6w ?_;refine X34 ?_;clear HL;intro w HL;go_upto_region 18 with fail;refine X2n ?_;go_upto_region 20 with fail
 refine X6z ?_;intro K hK;refine xad cf219 rfl _ rfl ?_;refine X1w ?_;(with_reducible refine(xm9 _ nl.key (d:Int) (by omega)).mono ?_);refine X4a ?_;clear hK K;intro w HL;refine X6v ?_;refine X34 ?_;clear HL;intro w HL;refine X55 ?_;intro hB;refine X56 ?_;intro hgs;have HO:=fun y hy=>(HL.own y hy).1
 refine X5q ?_;intro hSO;have HSB:=hZ (HH.out.sb.below hB);have HSW:=hZ ((HH.out.below hB).sw);refine X57 ?_;intro HX;clear HL;have HL:=HX;clear HX;have HZ:Hid (nl.size+nr.size=nl.size+nr.size):=hZ rfl;have HQl:=HSl.out;have HQr:=HSr.out;obtain⟨w1,rfl⟩:=eW w;go_upto_region 21 with fail;refine X70 ?_;refine X3e ?_;intro HL;refine X58 ?_;refine X6 ?_;refine X59 ?_;refine X72 ?_;refine X3b ?_;refine X73 ?_;refine X71 ?_;refine X74 ?_;refine X6 ?_;refine xab rfl rfl HL (fun W hW=>xai sc3 hW _ rfl _ _ rfl _ _ _ (.tail _ (.tail _ (.tail _ (.tail _ (.tail _ (.tail _ (.tail _ (.head _)))))))) (Nd.g_size _)) ?_;refine X6 ?_;refine X74 ?_;refine X6 ?_;refine X75 ?_;refine X6 ?_;refine X76 ?_;refine Xh ?_;intro K hK;refine X78 ?_;refine X43 ?_;intro w hb HL;refine X5u ?_;intro hB1;clear hb
 refine X79 ?_;clear hK K;intro K hK;refine X7a ?_;refine X43 ?_;intro w hb HL;replace hB1:Bw w1 w:=hB1.trans (hb.mono hB1.size);clear hb;refine X79 ?_;clear hK K;intro K hK;refine X7b ?_;(with_reducible refine(xgp _ nl.dig nr.dig).mono ?_);refine X43 ?_;intro w hb HL;replace hB1:Bw w1 w:=hB1.trans (hb.mono hB1.size);clear hb;refine X5v ?_;clear hK K;refine X5w ?_;refine X6 ?_;refine X7c ?_;refine Xh ?_;intro K hK;refine X5x ?_;(with_reducible refine(xjr (HSB.out.below hB1) (xco d nl.key nl.dig nr.dig left right (nl.size+nr.size)) [] hroom (xik _ _ _ _ _)).mono ?_);rintro e w ⟨D',vs',vf',rfl,hsb,hst,hf⟩;replace HL:=HL.frame hf (fun k hk hd=>hd.2 hk) (fun y hy e=>HO y hy (hSO _ e));refine X7e ?_;clear hK K;refine X62 ?_;intro hb2;refine X7f ?_;intro hS1;refine X7g ?_;intro hP1
 clear HL HO hb2 hst hsb hB1 hB hf HSB HSW hgs hSO;obtain⟨hi2,ei⟩:=xho hN i hi HCl.out ⟨xco d nl.key nl.dig nr.dig left right (nl.size+nr.size),1,[]⟩;obtain⟨hj2,ej⟩:=xho hN j hj HCr.out ⟨xco d nl.key nl.dig nr.dig left right (nl.size+nr.size),1,[]⟩;go_upto_region 22 with fail;refine X2n ?_;go_upto_region 24 with fail;refine X5b ?_;intro K hK;(with_reducible refine(xdp hP1 left (-1) i HE.out.1 hi2 (by rw[ei];exact HCl.out) (by rw[ei,HE.out.2];have:=HDl.out;omega)).mono ?_);rintro e w ⟨rfl,hP2,hf2⟩;rw[Sb.call_by] at hP2;refine X7h ?_;intro hS2;clear hf2 hS1 hP1;obtain⟨hj3,ek⟩:=by_at i j (-1) hj2 hne;refine X20 ?_;clear hK K;go_upto_region 25 with fail;refine X5b ?_;intro K hK
 (with_reducible refine(xdp hP2 right (-1) j HR.out.1 hj3 (by rw[ek,ej];exact HCr.out) (by rw[ek,ej,HR.out.2];have:=HDr.out;omega)).mono ?_);rintro e w ⟨rfl,hP3,hf3⟩;rw[Sb.call_by] at hP3;have hS3:=hS2.trans (Stp.of_fr hf3 fun k hk=>hP2.sb.own k hk);clear hf3 hS2 hP2;refine X20 ?_;clear hK K;go_upto_region 26 with fail;refine X3s ?_;go_wp2_with fail;go_ret2;exact⟨_,_,_,rfl,hP3,hS3⟩
theorem xg2(h:StP D w gs g σ vs vf)(hN:σ.Nice)(d:Nat)(hd:d<256)(i:Nat)(left:Int)(eL:left=(i:Int)+1)(hi:i<σ.slots.length)(nl:Nd)(hnl:σ.slots[i].nd=nl)(hcl:σ.slots[i].count≠0)(hfl:FitN nl d 0)(hhl:0<nl.held∧nl.held≤4611686018427387904)(hsl:0≤nl.size∧nl.size≤1073741824)(h2:nl.kind=2)(hroom:σ.used<σ.room) :
  Calls prog 210 #[pG gs,iV d,iV left,iV 0] w (Goes D w gs g (.tuple #[iV (σ.next:Int),iV 0]) ((σ.take ⟨xco d nl.key nl.dig tagE left 0 nl.size,1,[]⟩).by i (-1))):=by
 have HH:=hZ h;have hcs:=h.c;refine X63 ?_;intro GL HE;have k1:(left==0)=false:=by simp;omega
 have k3:(nl.held==0)=false:=by simp;omega
 have l1:1≤left:=by omega
 have HLl:=hZ l1;have HCl:=hZ hcl;have HFl:=hZ hfl;have HDl:=hZ hhl;have HSl:=hZ hsl;have HM:=hZ h2;have k5:decide (255<d)=false:=by simp;omega
 clear h  eL hnl hcl hfl hhl hsl l1 h2;obtain⟨w0,rfl,HL⟩:=lS w;go_enter func210,ntmps210;go_upto_region 0 with fail;refine X2y ?_;go_upto_region 1 with fail;refine X3z ?_;intro K hK;refine X5l ?_;rintro e w ⟨rfl,rfl⟩;refine X20 ?_;clear hK K;go_upto_region 3 with fail;refine X1o ?_;refine X29 ?_;go_upto_region 5 with fail;refine Xt ?_;refine X65 ?_;refine X6 ?_;refine X65 ?_;refine X6 ?_;refine xah xf4 rfl rfl HL ?_;clear HL;intro g10 w HL;refine X6 ?_;refine xah xf4 rfl rfl HL ?_;clear HL;intro g11 w HL;refine X2o ?_;refine X33 ?_;clear HL;intro w HL;refine X4b ?_;refine X34 ?_;clear HL;intro w HL;go_upto_region 6 with fail;refine X12 ?_;refine X66 ?_;refine X15 ?_;refine X66 ?_;refine X6 ?_;refine X67 ?_;clear HL;intro g33 w HL;refine Xu ?_;refine X68 ?_;refine X1e ?_;go_wp2_with fail;refine X69 ?_;rw[rounds_succ]
 go_upto_region 7 with fail;refine X6a ?_;go_upto_region 8 with fail;refine Xt ?_;refine X6b ?_;refine X6 ?_;refine X6c ?_;refine X6d ?_;clear HL;intro g13 w HL;refine X6 ?_;refine X6e ?_;refine X34 ?_;clear HL;intro w HL;go_upto_region 9 with fail;refine Xt ?_;refine X6h ?_;go_upto_region 10 with fail;refine X12 ?_;refine X6g ?_;refine X50 ?_;intro K hK;refine X4g ?_;refine X6i ?_;refine X6j ?_;clear hK K;intro g14 w HL;go_upto_region 11 with fail;refine X6k ?_;refine X6 ?_;refine X6l ?_;go_upto_region 13 with fail;refine Xt ?_;refine X6m ?_;refine X6 ?_;refine X6n ?_;refine X6 ?_;refine X2r ?_;refine X16 ?_;refine X6o ?_;refine X34 ?_;clear HL;intro w HL;go_upto_region 14 with fail;refine X6p ?_;go_wp2_with fail;rw[rounds_succ];go_upto_region 7 with fail;refine X6a ?_;go_upto_region 8 with fail;refine Xt ?_;refine X6q ?_;refine X6 ?_
 refine xaa rfl _ (xav xl3 HL _ rfl _ _ rfl _ _ [iV 0,pG g11] (.tail _ (.tail _ (.head _))) rfl rfl) ?_;refine X6d ?_;clear HL;intro g13 w HL;refine X6 ?_;refine X6e ?_;refine X34 ?_;clear HL;intro w HL;go_upto_region 9 with fail;refine Xt ?_;refine X6h ?_;go_upto_region 14 with fail;refine X6p ?_;go_wp2_with fail;rw[rounds_succ];go_upto_region 7 with fail;refine X6a ?_;go_upto_region 15 with fail;refine X6s ?_;refine X6t ?_;refine X6 ?_;refine X7i ?_;refine X50 ?_;intro K hK;refine xad cf242 rfl _ rfl ?_;refine X1w ?_;(with_reducible refine(xuk nl Nd.z d left hd HLl.out HFl.out HM.out).mono ?_);refine X6u ?_;clear hK K;intro w HL;go_upto_region 17 with fail;refine X4r ?_;refine X7j ?_;refine X6 ?_;refine xah zr24 rfl rfl HL ?_;clear HL;intro g16 w HL;refine X6w ?_;refine X34 ?_;clear HL;intro w HL
 go_upto_region 18 with fail;refine X2n ?_;go_upto_region 20 with fail;refine X6z ?_;intro K hK;refine xad cf219 rfl _ rfl ?_;refine X1w ?_;(with_reducible refine(xm9 _ nl.key (d:Int) (by omega)).mono ?_);refine X4a ?_;clear hK K;intro w HL;refine X6v ?_;refine X34 ?_;clear HL;intro w HL;refine X55 ?_;intro hB;refine X56 ?_;intro hgs;have HO:=fun y hy=>(HL.own y hy).1
 refine X5q ?_;intro hSO;have HSB:=hZ (HH.out.sb.below hB);have HSW:=hZ ((HH.out.below hB).sw);refine X57 ?_;intro HX;clear HL;have HL:=HX;clear HX;have HZ:Hid (nl.size+Nd.z.size=nl.size):=hZ (by simp[Nd.z]);have HQl:=HSl.out;obtain⟨w1,rfl⟩:=eW w;go_upto_region 21 with fail;refine X70 ?_;refine X3e ?_;intro HL;refine X58 ?_;refine X6 ?_;refine X59 ?_;refine X72 ?_;refine X3b ?_;refine X73 ?_;refine X71 ?_;refine X74 ?_;refine X6 ?_;refine X75 ?_;refine X6 ?_;refine X74 ?_;refine X6 ?_;refine X7k ?_;refine X6 ?_;refine X76 ?_;refine Xh ?_;intro K hK;refine X78 ?_;refine X43 ?_;intro w hb HL;refine X5u ?_;intro hB1;clear hb;refine X79 ?_;clear hK K;intro K hK;refine X77 ?_;(with_reducible refine(xfz (HSW.out.below hB1)).mono ?_);refine X43 ?_;intro w hb HL;replace hB1:Bw w1 w:=hB1.trans (hb.mono hB1.size)
 clear hb;refine X79 ?_;clear hK K;intro K hK;refine X7b ?_;(with_reducible refine(xgp _ nl.dig tagE).mono ?_);refine X43 ?_;intro w hb HL;replace hB1:Bw w1 w:=hB1.trans (hb.mono hB1.size);clear hb;refine X5v ?_;clear hK K;refine X5w ?_;refine X6 ?_;refine X7c ?_;refine Xh ?_;intro K hK;refine X5x ?_;(with_reducible refine(xjr (HSB.out.below hB1) (xco d nl.key nl.dig tagE left 0 nl.size) [] hroom (xik _ _ _ _ _)).mono ?_);rintro e w ⟨D',vs',vf',rfl,hsb,hst,hf⟩;replace HL:=HL.frame hf (fun k hk hd=>hd.2 hk) (fun y hy e=>HO y hy (hSO _ e));refine X7e ?_;clear hK K;refine X62 ?_;intro hb2;refine X7f ?_;intro hS1;refine X7g ?_;intro hP1;clear HL HO hb2 hst hsb hB1 hB hf HSB HSW hgs hSO;obtain⟨hi2,ei⟩:=xho hN i hi HCl.out ⟨xco d nl.key nl.dig tagE left 0 nl.size,1,[]⟩;go_upto_region 22 with fail;refine X2n ?_
 go_upto_region 24 with fail;refine X5b ?_;intro K hK;(with_reducible refine(xdp hP1 left (-1) i HE.out.1 hi2 (by rw[ei];exact HCl.out) (by rw[ei,HE.out.2];have:=HDl.out;omega)).mono ?_);rintro e w ⟨rfl,hP2,hf2⟩;rw[Sb.call_by] at hP2;refine X7h ?_;intro hS2;clear hf2 hS1 hP1;refine X20 ?_;clear hK K;go_upto_region 25 with fail;refine X5b ?_;intro K hK;(with_reducible refine(xi9 hP2.sw 0 (-1) (by omega)).mono ?_);rintro e w ⟨rfl,hb2⟩;have hP3:=hP2.below hb2;have hS3:=hS2.trans (Stp.of_below hb2);clear hb2 hS2 hP2;refine X20 ?_;clear hK K;go_upto_region 26 with fail;refine X3s ?_;go_wp2_with fail;go_ret2;exact⟨_,_,_,rfl,hP3,hS3⟩
theorem xge(h:StP D w gs g σ vs vf)(hN:σ.Nice)(d:Nat)(hd:d<256)(j:Nat)(right:Int)(eR:right=(j:Int)+1)(hj:j<σ.slots.length)(nr:Nd)(hnr:σ.slots[j].nd=nr)(hcr:σ.slots[j].count≠0)(hfr:FitN nr d 1)(hhr:0<nr.held∧nr.held≤4611686018427387904)(hsr:0≤nr.size∧nr.size≤1073741824)(h2:nr.kind=2)(hroom:σ.used<σ.room) :
  Calls prog 210 #[pG gs,iV d,iV 0,iV right] w (Goes D w gs g (.tuple #[iV (σ.next:Int),iV 0]) ((σ.take ⟨xco d nr.key tagE nr.dig 0 right nr.size,1,[]⟩).by j (-1))):=by
 have HH:=hZ h;have hcs:=h.c;refine X64 ?_;intro GR HR;have k2:(right==0)=false:=by simp;omega
 have k4:(nr.held==0)=false:=by simp;omega
 have l2:1≤right:=by omega
 have HRr:=hZ l2;have HCr:=hZ hcr;have HFr:=hZ hfr;have HDr:=hZ hhr;have HSr:=hZ hsr;have HM:=hZ h2;have k5:decide (255<d)=false:=by simp;omega
 clear h  eR hnr hcr hfr hhr hsr l2 h2;obtain⟨w0,rfl,HL⟩:=lS w;go_enter func210,ntmps210;go_upto_region 0 with fail;refine X2y ?_;go_upto_region 1 with fail;refine X3z ?_;intro K hK;refine X5l ?_;rintro e w ⟨rfl,rfl⟩;refine X20 ?_;clear hK K;go_upto_region 3 with fail;refine X1o ?_;refine X29 ?_;go_upto_region 5 with fail;refine Xt ?_;refine X65 ?_;refine X6 ?_;refine X65 ?_;refine X6 ?_;refine xah xf4 rfl rfl HL ?_;clear HL;intro g10 w HL;refine X6 ?_;refine xah xf4 rfl rfl HL ?_;clear HL;intro g11 w HL;refine X2o ?_;refine X33 ?_;clear HL;intro w HL;refine X4b ?_;refine X34 ?_;clear HL;intro w HL;go_upto_region 6 with fail;refine X12 ?_;refine X66 ?_;refine X15 ?_;refine X66 ?_;refine X6 ?_;refine X67 ?_;clear HL;intro g33 w HL;refine Xu ?_;refine X68 ?_;refine X1e ?_;go_wp2_with fail;refine X69 ?_;rw[rounds_succ]
 go_upto_region 7 with fail;refine X6a ?_;go_upto_region 8 with fail;refine Xt ?_;refine X6b ?_;refine X6 ?_;refine xaa rfl _ (xav xl3 HL _ rfl _ _ rfl _ _ [iV 0,pG g10] (.head _) rfl rfl) ?_;refine X6d ?_;clear HL;intro g13 w HL;refine X6 ?_;refine X6e ?_;refine X34 ?_;clear HL;intro w HL;go_upto_region 9 with fail;refine Xt ?_;refine X6h ?_;go_upto_region 14 with fail;refine X6p ?_;go_wp2_with fail;rw[rounds_succ];go_upto_region 7 with fail;refine X6a ?_;go_upto_region 8 with fail;refine Xt ?_;refine X6q ?_;refine X6 ?_;refine xaa rfl _ (xav xl3 HL _ rfl _ _ rfl _ _ [iV right,pG g11] (.tail _ (.head _)) rfl rfl) ?_;refine X6d ?_;clear HL;intro g13 w HL;refine X6 ?_;refine X6e ?_;refine X34 ?_;clear HL;intro w HL;go_upto_region 9 with fail;refine Xt ?_;refine X6h ?_;go_upto_region 10 with fail;refine X12 ?_
 refine X6g ?_;refine X50 ?_;intro K hK;refine X6r ?_;refine X6j ?_;clear hK K;intro g14 w HL;go_upto_region 11 with fail;refine X6k ?_;refine X6 ?_;refine X6l ?_;go_upto_region 13 with fail;refine Xt ?_;refine X6m ?_;refine X6 ?_;refine X6n ?_;refine X6 ?_;refine X2r ?_;refine X16 ?_;refine X6o ?_;refine X34 ?_;clear HL;intro w HL;go_upto_region 14 with fail;refine X6p ?_;go_wp2_with fail;rw[rounds_succ];go_upto_region 7 with fail;refine X6a ?_;go_upto_region 15 with fail;refine X6s ?_;refine X6t ?_;refine X6 ?_;refine X7i ?_;refine X50 ?_;intro K hK;refine xad cf242 rfl _ rfl ?_;refine X1w ?_;(with_reducible refine(xqw Nd.z nr d right hd HRr.out HFr.out HM.out).mono ?_);refine X6u ?_;clear hK K;intro w HL;go_upto_region 17 with fail;refine X4r ?_;refine X7j ?_;refine X6 ?_
 refine xah zr24 rfl rfl HL ?_;clear HL;intro g16 w HL;refine X6w ?_;refine X34 ?_;clear HL;intro w HL;go_upto_region 18 with fail;refine X2n ?_;go_upto_region 19 with fail;refine X4r ?_;refine X7j ?_;refine X6w ?_;refine X34 ?_;clear HL;intro w HL;go_upto_region 20 with fail;refine X6z ?_;intro K hK;refine xad cf219 rfl _ rfl ?_;refine X1w ?_;(with_reducible refine(xm9 _ nr.key (d:Int) (by omega)).mono ?_);refine X4a ?_;clear hK K;intro w HL;refine X6v ?_;refine X34 ?_;clear HL;intro w HL;refine X55 ?_;intro hB;refine X56 ?_;intro hgs;have HO:=fun y hy=>(HL.own y hy).1
 refine X5q ?_;intro hSO;have HSB:=hZ (HH.out.sb.below hB);have HSW:=hZ ((HH.out.below hB).sw);refine X57 ?_;intro HX;clear HL;have HL:=HX;clear HX;have HZ:Hid (Nd.z.size+nr.size=nr.size):=hZ (by simp[Nd.z]);have HQr:=HSr.out;obtain⟨w1,rfl⟩:=eW w;go_upto_region 21 with fail;refine X70 ?_;refine X3e ?_;intro HL;refine X58 ?_;refine X6 ?_;refine X59 ?_;refine X72 ?_;refine X3b ?_;refine X73 ?_;refine X71 ?_;refine X74 ?_;refine X6 ?_;refine X75 ?_;refine X6 ?_;refine X74 ?_;refine X6 ?_;refine X7k ?_;refine X6 ?_;refine X76 ?_;refine Xh ?_;intro K hK;refine X77 ?_;(with_reducible refine(xfz (HSW.out.below (Below.refl _ _).drew)).mono ?_);refine X43 ?_;intro w hb HL;refine X5u ?_;intro hB1;clear hb;refine X79 ?_;clear hK K;intro K hK;refine X7a ?_;refine X43 ?_;intro w hb HL
 replace hB1:Bw w1 w:=hB1.trans (hb.mono hB1.size);clear hb;refine X79 ?_;clear hK K;intro K hK;refine X7b ?_;(with_reducible refine(xgp _ tagE nr.dig).mono ?_);refine X43 ?_;intro w hb HL;replace hB1:Bw w1 w:=hB1.trans (hb.mono hB1.size);clear hb;refine X5v ?_;clear hK K;refine X5w ?_;refine X6 ?_;refine X7c ?_;refine Xh ?_;intro K hK;refine X5x ?_;(with_reducible refine(xjr (HSB.out.below hB1) (xco d nr.key tagE nr.dig 0 right nr.size) [] hroom (xik _ _ _ _ _)).mono ?_);rintro e w ⟨D',vs',vf',rfl,hsb,hst,hf⟩;replace HL:=HL.frame hf (fun k hk hd=>hd.2 hk) (fun y hy e=>HO y hy (hSO _ e));refine X7e ?_;clear hK K;refine X62 ?_;intro hb2;refine X7f ?_;intro hS1;refine X7g ?_;intro hP1;clear HL HO hb2 hst hsb hB1 hB hf HSB HSW hgs hSO
 obtain⟨hj2,ej⟩:=xho hN j hj HCr.out ⟨xco d nr.key tagE nr.dig 0 right nr.size,1,[]⟩;go_upto_region 22 with fail;refine X2n ?_;go_upto_region 24 with fail;refine X5b ?_;intro K hK;(with_reducible refine(xi9 hP1.sw 0 (-1) (by omega)).mono ?_);rintro e w ⟨rfl,hb2⟩;have hP2:=hP1.below hb2;have hS2:=hS1.trans (Stp.of_below hb2);clear hb2 hS1 hP1;refine X20 ?_;clear hK K;go_upto_region 25 with fail;refine X5b ?_;intro K hK;(with_reducible refine(xdp hP2 right (-1) j HR.out.1 hj2 (by rw[ej];exact HCr.out) (by rw[ej,HR.out.2];have:=HDr.out;omega)).mono ?_);rintro e w ⟨rfl,hP3,hf3⟩;rw[Sb.call_by] at hP3;have hS3:=hS2.trans (Stp.of_fr hf3 fun k hk=>hP2.sb.own k hk);clear hf3 hS2 hP2;refine X20 ?_;clear hK K;go_upto_region 26 with fail;refine X3s ?_;go_wp2_with fail;go_ret2;exact⟨_,_,_,rfl,hP3,hS3⟩
end
section
variable {D:Nat→Prop}{w w':World}{gs g:Nat}{σ:Sb}{vs vf:Sv}
def Sb.less(σ:Sb)(i:Nat):Sb:={ σ with slots:=σ.slots.modify i fun e=>⟨{ e.nd with held:=e.nd.held - 1 },e.count - 1,e.val⟩ }
theorem Sb.less_eq(i:Nat)(hi:i<σ.slots.length):(σ.call i hi (-1)).put i ⟨{ σ.slots[i].nd with held:=σ.slots[i].nd.held + -1 },σ.slots[i].count - 1,σ.slots[i].val⟩=σ.less i:=by
 unfold Sb.call Sb.less Sb.put;simp only[List.set_set];congr 1;apply List.ext_getElem (by simp);intro k h1 h2;rw[List.getElem_modify,List.getElem_set]
 split
 ·next e=>subst e;rfl
 ·rfl
theorem xnl(h:StP D w gs g σ vs vf)(z:Int)(i:Nat)(hz:z=(i:Int)+1)(hi:i<σ.slots.length)(hc:1<σ.slots[i].count)(hmax:σ.slots[i].count<1099511627776)(hh:0<σ.slots[i].nd.held∧σ.slots[i].nd.held≤4611686018427387904) :
  Calls prog 130 #[pG gs,iV z] w (Goes D w gs g (.tuple #[iV 0,iV 0]) (σ.less i)):=by
 have HH:=hZ h;have GL:Hid (Got σ z σ.slots[i].nd σ.slots[i].val true):=hZ (.inl ⟨rfl,i,hz,hi,rfl,rfl,by omega⟩);have k3:(σ.slots[i].nd.held==0)=false:=by simp;omega
 have HZ:=hZ (And.intro hz (And.intro hc (And.intro hmax hh)));clear h hz hc hmax hh;obtain⟨w0,rfl,HL⟩:=lS w;go_enter func130,ntmps130;go_upto_region 0 with fail;refine X2y ?_;go_upto_region 1 with fail;refine X3z ?_;intro K hK;refine X5l ?_;rintro e w ⟨rfl,rfl⟩;refine X20 ?_;clear hK K;go_upto_region 3 with fail;refine X4h ?_;intro K hK;refine X6i ?_;refine X4f ?_;clear hK K;intro g6 w HL;go_upto_region 4 with fail;refine X6k ?_;refine X6 ?_;refine X6l ?_;have hP1:=HH.out.below HL.below;have hS1:Stp D w0 D w:=Stp.of_below HL.below;clear HL;go_upto_region 6 with fail;refine X5b ?_;intro K hK;(with_reducible refine(xdp hP1 z (-1) i HZ.out.1 hi (by have:=HZ.out.2.1;omega) (by have:=HZ.out.2.2.2;omega)).mono ?_);rintro e w ⟨rfl,hP2,hf2⟩;refine X7h ?_;intro hS2;clear hf2 hS1 hP1;refine X20 ?_;clear hK K;have hcs:=hP2.c
 have HP:=hZ hP2;clear hP2;have hi2:i<(σ.call i hi (-1)).slots.length:=by simpa[Sb.call,Sb.put] using hi
 have ei:(σ.call i hi (-1)).slots[i]=⟨{ σ.slots[i].nd with held:=σ.slots[i].nd.held + -1 },σ.slots[i].count,σ.slots[i].val⟩:=by simp[Sb.call,Sb.put]
 have HE:=hZ ei;have G2:Hid (Got (σ.call i hi (-1)) z (σ.call i hi (-1)).slots[i].nd (σ.call i hi (-1)).slots[i].val true):=hZ (.inl ⟨rfl,i,HZ.out.1,hi2,rfl,rfl,by rw[ei];have:=HZ.out.2.1;simp only;omega⟩);clear ei;have HL:=Loc.start w;obtain⟨w2,rfl⟩:=eW w;go_upto_region 7 with fail;refine X1j ?_;go_upto_region 8 with fail;refine X12 ?_;refine xd9 sl71 el3 rfl _ rfl HL _ rfl rfl ?_;clear HL;intro g36 w HL;(try simp only[Act.eval,qa,qb,qc,qd,qe] at HL);refine X1a ?_;go_wp2_with fail;refine wp_loop_rounds 2 ?_;rw[rounds_succ];go_upto_region 9 with fail;refine X12 ?_;refine X3n ?_;refine X28 ?_;go_upto_region 10 with fail;refine X19 ?_;refine X3n ?_;refine X6 ?_;refine X1k ?_;refine X6 ?_;refine xaa rfl _ (xap sl71 _ _ rfl _ _ _ 0 _ rfl rfl (by decide)) ?_;refine X6f ?_;refine X1a ?_;go_upto_region 11 with fail
 refine X19 ?_;refine X3n ?_;refine X6 ?_;refine X1k ?_;refine X6 ?_;refine xaa rfl _ (xbw sl71 _ _ rfl _ 1 1 0 .i64 rfl rfl (by omega)) ?_;refine X1a ?_;go_upto_region 12 with fail;refine X4h ?_;intro K hK;(with_reducible refine(xfy (HP.out.sw.below HL.below) _ _ _ true G2.out).mono ?_);refine X4a ?_;clear hK K;intro w HL;refine xah xf4 rfl rfl HL ?_;clear HL;intro g11 w HL;refine X4d ?_;clear HL;intro w HL;go_upto_region 13 with fail;refine X40 ?_;refine X41 ?_;refine X42 ?_;intro K hK;refine xad cf190 rfl _ rfl ?_;refine X1w ?_;(with_reducible refine(xhm (HP.out.sb.below HL.below) z i HZ.out.1 hi2 (by rw[HE.out];exact HZ.out.2.1) (by rw[HE.out];exact HZ.out.2.2.1)).mono ?_);rintro e w ⟨rfl,hsb,hf⟩;have hP3:StP D w gs g _ vs vf:=⟨(HP.out.below HL.below).blk.fr hf HP.out.sbs,HP.out.own,hsb⟩
 have hS3:=hS2.trans ((Stp.of_below HL.below).trans (Stp.of_fr hf fun k hk=>HP.out.sb.own k hk));clear HL hsb hf hS2;refine X7l ?_;clear hK K;go_wp2_with fail;rw[rounds_succ];go_upto_region 9 with fail;refine X12 ?_;refine X3n ?_;refine X28 ?_;go_upto_region 22 with fail;refine X3s ?_;go_wp2_with fail;go_ret2
 have e:(σ.call i hi (-1)).put i ⟨(σ.call i hi (-1)).slots[i].nd,(σ.call i hi (-1)).slots[i].count - 1,(σ.call i hi (-1)).slots[i].val⟩=σ.less i:=by
  rw[HE.out];exact Sb.less_eq i hi
 rw[e] at hP3;exact⟨_,_,_,rfl,hP3,hS3⟩
end
section
variable {D:Nat→Prop}{w w':World}{gs g:Nat}{σ:Sb}{vs vf:Sv}
def sdO(key:D32)(d:Nat)(n:Nd):Int:=if tb key.l d then n.right else n.left
def sdX(key:D32)(d:Nat)(n:Nd):Int:=if tb key.l d then n.left else n.right
theorem other_ok(h:StW D w gs σ)(z:Int)(n:Nd)(val:LU)(hG:Got σ z n val true)(d:Nat)(hd:d<256)(hn:n.depth=(d:Int))(key:D32) :
  Calls prog 212 #[pG gs,iV z,key.a] w (oB w (.tuple #[iV (sdO key d n),iV (sdX key d n)])):=by
 have hE:tb key.l d=true∨tb key.l d=false:=by cases tb key.l d<;>simp
 have HGG:=hZ hG;have HH:=hZ h;rcases hE with hE | hE
 ·have e1:sdO key d n=n.right:=by unfold sdO;simp[hE]
  have e2:sdX key d n=n.left:=by unfold sdX;simp[hE]
  rw[e1,e2];refine X7m ?_;intro C;rw[hE] at C;have CD:=fun(u:World)(hu:StW D u gs σ)=>hZ (xpc hu z n val hG)
  rw[hn] at CD;clear hE e1 e2 hn h hG;obtain⟨w0,rfl,HL⟩:=lS w;go_enter func212,ntmps212;go_upto_region 0 with fail;refine X2s ?_;clear HL;intro g5 w HL;refine X1g ?_;go_upto_region 1 with fail;refine X2j ?_;intro K hK;refine X7o ?_;refine X4a ?_;clear hK K;intro w HL;refine X1f ?_;have HB:=HL.below;go_upto_region 2 with fail;refine rB (Loc.P HL) [] [3,4] [0,1,2,3,4,5] 0 ?_;refine X3a ?_;intro HL;refine X73 ?_;refine X71 ?_;refine Xg ?_;intro K hK;refine xad cf243 rfl _ rfl ?_;refine X1w ?_;(with_reducible refine((CD _ (HH.out.below HB.drew)).out).mono ?_);refine X7p ?_;clear hK K;intro w HL K hK;refine X5e ?_;refine X7q ?_;clear hK K;intro w HL;refine X3i ?_;refine Xb ?_;go_upto_region 4 with fail;refine X7r ?_;go_wp2_with fail;go_ret2;exact⟨rfl,HL.below⟩
 ·have e1:sdO key d n=n.left:=by unfold sdO;simp[hE]
  have e2:sdX key d n=n.right:=by unfold sdX;simp[hE]
  rw[e1,e2];refine X7m ?_;intro C;rw[hE] at C;have CD:=fun(u:World)(hu:StW D u gs σ)=>hZ (xpc hu z n val hG)
  rw[hn] at CD;clear hE e1 e2 hn h hG;obtain⟨w0,rfl,HL⟩:=lS w;go_enter func212,ntmps212;go_upto_region 0 with fail;refine X2s ?_;clear HL;intro g5 w HL;refine X1g ?_;go_upto_region 1 with fail;refine X2j ?_;intro K hK;refine X7o ?_;refine X4a ?_;clear hK K;intro w HL;refine X1f ?_;have HB:=HL.below;go_upto_region 2 with fail;refine rB (Loc.P HL) [] [3,4] [0,1,2,3,4,5] 0 ?_;refine X3a ?_;intro HL;refine X73 ?_;refine X71 ?_;refine Xg ?_;intro K hK;refine xad cf243 rfl _ rfl ?_;refine X1w ?_;(with_reducible refine((CD _ (HH.out.below HB.drew)).out).mono ?_);refine X7p ?_;clear hK K;intro w HL K hK;refine X5e ?_;refine X7q ?_;clear hK K;intro w HL;refine X3i ?_;refine Xb ?_;go_upto_region 3 with fail;refine X7r ?_;go_wp2_with fail;go_ret2;exact⟨rfl,HL.below⟩
inductive Way (σ:Sb)(key:D32):Int→List Int→Int→Prop
 | stop (z:Int) (n:Nd) (val:LU) (ok:Bool):Got σ z n val ok→n.kind≠2→Way σ key z [] z
 | step (z:Int) (n:Nd) (val:LU) (d:Nat) (l:List Int) (e:Int):Got σ z n val true→n.kind=2→d<256→n.depth=(d:Int)→Way σ key (sdO key d n) l e→Way σ key z (z::l) e
def iZ(l:List Int):List Value:=l.map fun z=>.int .i64 z
theorem xqx(l:List Int):(iZ l).length=l.length:=by simp[iZ]
theorem xku(h:StW D w gs σ)(root:Int)(key:D32)(way:List Int)(fin:Int)(hway:Way σ key root way fin)(hl:way.length≤4096)
  (hroot:∀ u,StW D u gs σ→Calls prog 154 #[pG gs,iV root] u (oB u (iV 0))) :
  Calls prog 152 #[pG gs,iV root,key.a] w fun e w'=>∃ v:Sv,e=.returned (.tuple #[v.v,iV fin,iV 0])∧w'.ownsRow 0 3 1 v.v way.length (iZ way)∧(∀ k,v.v.ownBlock=some k→w.heap.size≤k)∧Bw w w':=by
 have HH:=hZ h;have HR:=hZ hroot;have HW:=hZ hway;clear h hroot hway;obtain⟨w0,rfl,HL⟩:=lS w;go_enter func152,ntmps152;go_upto_region 0 with fail;refine X2s ?_;clear HL;intro g5 w HL;refine X6 ?_;refine X7s ?_;have hK0:Blk w g5 24 key.c:=HL.blk (.head _);have hB0:Bw w0 w:=HL.below;have hg5:w0.heap.size≤g5:=Nat.le_of_not_lt (HL.own _ (.head _)).1;clear HL;have HL:=Loc.start w;obtain⟨w1,rfl⟩:=eW w;go_upto_region 1 with fail;refine X2j ?_;intro K hK;refine X7t ?_;refine X1w ?_;(with_reducible refine(HR.out _ ((HH.out.below hB0).below HL.below)).mono ?_);refine X7u ?_;clear hK K;intro w HL;go_upto_region 4 with fail;refine X7v ?_;have hB1:Bw w0 w:=hB0.trans (HL.below.mono hB0.size);have hK1:Blk w g5 24 key.c:=HL.farO hK0;clear HL hB0 hK0;go_wp2_with fail
 go_loopw [6,7] (fun v z wr=>∃ (s:Sv)(done rest:List Int)(h:Int),v=s.v∧z=.int .i64 h∧done++rest=way∧Way σ key h rest fin∧wr.ownsRow 0 3 1 s.v done.length (iZ done)∧(∀ k,s.v.ownBlock=some k→w0.heap.size≤k∧k≠g5)∧Blk wr g5 24 key.c∧Bw w0 wr) (fun v _ _=>way.length - (match v with | .slice _ n _=>n | _=>0))
 case atStart=>exact⟨Sv.nil,[],way,root,rfl,rfl,rfl,HW.out,⟨rfl,.inl ⟨rfl,rfl⟩⟩,fun k hk=>by simp[Sv.nil,Sv.v,Value.ownBlock] at hk,hK1,hB1⟩
 case round =>
  obtain⟨s,done,rest,z,rfl,rfl,hcat,hW,ho,hs,hK,hB⟩:=hrel;have hlen:done.length+rest.length=way.length:=by rw[← hcat];simp
  have hsn:=xfh ho;have HC:=hZ hcat;have HO:=hZ ho;clear hcat hB1 hK1 ho;have HL:=Loc.start wr;obtain⟨w,rfl⟩:=eW wr;obtain⟨w2,rfl⟩:=eW w
  cases hW with
  | stop _ n val ok hG hk =>
   have HG:=hZ hG;have k1:((n.kind:Int)==2)=false:=by simp;omega
   have HKn:=hZ hk;clear hG hk;go_upto_region 5 with fail;refine X7x ?_;intro K hK;(with_reducible refine(xcy ((HH.out.below hB).below HL.below) _ n val ok HG.out).mono ?_);refine X45 ?_;clear hK K;intro w HL;refine X1z ?_;go_upto_region 7 with fail;refine X7y ?_;go_upto_region 6 with fail;refine X19 ?_;refine X7s ?_;go_wp2_with fail
   go_ret3
   have e:done=way:=by rw[← HC.out];simp
   subst e;exact⟨s,rfl,xbm HO.out (fun k hk=>HL.heap (by have:=(xb4 HO.out hk);obtain⟨cs,hc⟩:=this;exact hc.lt)),fun k hk=>(hs k hk).1,hB.trans (HL.below.mono hB.size)⟩
  | step _ n val d rest' _ hG hk hd hn hW2 =>
   have HG:=hZ hG;have HN:=hZ hn;have HW2:=hZ hW2;have k1:((n.kind:Int)==2)=true:=by rw[hk];rfl
   clear hG hk hn hW2;go_upto_region 5 with fail;refine X7x ?_;intro K hK;(with_reducible refine(xcy ((HH.out.below hB).below HL.below) _ n val true HG.out).mono ?_);refine X45 ?_;clear hK K;intro w HL;refine X1z ?_;go_upto_region 7 with fail;refine X7y ?_;go_upto_region 8 with fail;refine X19 ?_;refine xd9 sl71 el3 rfl _ rfl HL _ rfl rfl ?_;clear HL;intro g25 w HL;(try simp only[Act.eval,qa,qb,qc,qd,qe] at HL);refine X6 ?_;refine wpList_plain rfl fun K hK2=>?_
   refine xes sl71 el3 _ _ rfl s done.length (iZ done) rfl (xbm HO.out (fun k hk=>HL.heap (by obtain⟨cs,hc⟩:=xb4 HO.out hk;exact hc.lt))) ⟨g25,0,none⟩ 1 1 [iV z] rfl (Rd.of_blk0 (es:=[]) (HL.blk (.head _))) rfl (by simp[Value.oneCell']) (by omega) (by simp only[qr] at hlen;omega) (by simp only[qr] at hlen;omega) ?_;intro s' w' ho' hg' hk' hlt';refine hK2 _ _ ?_;clear hK2 K;refine X10 ?_;have hs2:=ho';rw[show iZ done++[iV z]=iZ (done++[z]) by simp[iZ]] at hs2;have hBx:Bw w0 w':=(hB.trans (HL.below.mono hB.size)).grown hg' (Nat.le_trans hB.size HL.fr.size) (fun k hk=>(hs k hk).1);have hK2:Blk w' g5 24 key.c:=(HL.farO hK).grown hg' (fun e=>(hs _ e.symm).2 rfl);have hg5lt:g5<w.heap.size:=(HL.farO hK).lt
   have hs':∀ k,s'.v.ownBlock=some k→w0.heap.size≤k∧k≠g5:=fun k hk=>by
    rcases hk' k hk with h1 | h1
    ·exact hs k h1
    ·have:=hBx.size
     exact⟨by have h2:=Nat.le_trans hB.size HL.fr.size;omega,by omega⟩
   have HO2:=hZ hs2;clear HL ho' hg' hk' hs2 HO hK hB;have HL:=Loc.start w';obtain⟨w,rfl⟩:∃ w,w=w':=⟨_,rfl⟩;obtain⟨w3,rfl⟩:=eW w;go_upto_region 9 with fail;refine X19 ?_;refine xaa rfl _ (xc9 ag24 HL _ rfl _ _ rfl _ _ _ hK2.lt hK2 (by rw[List.drop_zero,List.take_of_length_le (by rw[D32.cl];omega)]) (D32.cl _)) ?_;refine X50 ?_;intro K hK;refine xad cf212 rfl _ rfl ?_;refine X1w ?_;(with_reducible refine(other_ok ((HH.out.below hBx).below HL.below) _ n val HG.out d hd HN.out key).mono ?_);refine X45 ?_;clear hK K;intro w HL;refine X15 ?_;refine X47 ?_;refine X46 ?_;refine X1a ?_;go_wp2_with fail;go_roundw
   case rel=>exact⟨s',done++[z],rest',_,rfl,rfl,by rw[← HC.out];simp,HW2.out,by rw[List.length_append];exact xbm HO2.out (fun k hk=>HL.heap (by obtain⟨cs,hc⟩:=xb4 HO2.out hk;exact hc.lt)),hs',HL.farO hK2,hBx.trans (HL.below.mono hBx.size)⟩
   case measure =>
    have h1:=xfh HO2.out;simp only[qr] at hlen;have h2:s'.n=s.n+1:=by rw[h1,hsn]
    have h3:s.n<way.length:=by omega
    show way.length - s'.n<way.length - s.n;omega
end
section
variable {P:Program}{w:World}{a:Act}{o:Oper}
theorem xnm{T T' n:Nat}(B:AB P T n)(x y:Operand)(ho:o.op=.binOp .neq T x y T')(xs ys:LU)(ex:a.eval x=.agg (bvs xs).toArray)(ey:a.eval y=.agg (bvs ys).toArray)(hx:xs.length=n)(hy:ys.length=n) :
  (execOp a.eval o).run P w=.ok (.value (.bool (!(xs==ys)))) w:=by
 have hr:=AB.run (w:=w) B xs ys hx hy
 have hg:(eqGuard .neq T x y (.agg (bvs xs).toArray) (.agg (bvs ys).toArray)).run P w=.ok () w:=by
  simp[eqGuard,B.g]
 have hn:(binOp .neq T (.agg (bvs xs).toArray) (.agg (bvs ys).toArray)).run P w=.ok (.bool (!(xs==ys))) w:=by
  have h1:(Op.equal T (.agg (bvs xs).toArray) (.agg (bvs ys).toArray)).run P w=.ok (xs==ys) w:=by
   have h2:binOp .eql T (.agg (bvs xs).toArray) (.agg (bvs ys).toArray)=(do pure (.bool (← Op.equal T (.agg (bvs xs).toArray) (.agg (bvs ys).toArray)))):=rfl;rw[h2] at hr;simp only[Sem.run_bind] at hr;generalize (Op.equal T (.agg (bvs xs).toArray) (.agg (bvs ys).toArray)).run P w=r at hr
   cases r with
   | ok b w'=>simp at hr;rw[hr.1,hr.2]
   | halt h w'=>simp[Result.andThen] at hr
  have h3:binOp .neq T (.agg (bvs xs).toArray) (.agg (bvs ys).toArray)=(do pure (.bool (!(← Op.equal T (.agg (bvs xs).toArray) (.agg (bvs ys).toArray))))):=rfl;rw[h3];simp only[Sem.run_bind,h1,Result.andThen_ok,Sem.run_pure]
 unfold execOp;simp only[ho,ex,ey,Sem.run_bind,hg,Result.andThen_ok,hn,Sem.run_pure]
theorem xax{t t':TypeId}{b:Bool}{k:IntKind}(x y:Operand)(ho:o.op=.binOp .lss t x y t')(m n:Int)(hx:a.eval x=.int k m)(hy:a.eval y=.int k n)(hb:decide (m<n)=b):(execOp a.eval o).run P w=.ok (.value (.bool b)) w:=by
 subst hb;unfold execOp;simp only[ho,hx,hy];go_simp
theorem xbq{t t':TypeId}{b:Bool}{k:IntKind}(x y:Operand)(ho:o.op=.binOp .gtr t x y t')(m n:Int)(hx:a.eval x=.int k m)(hy:a.eval y=.int k n)(hb:decide (n<m)=b):(execOp a.eval o).run P w=.ok (.value (.bool b)) w:=by
 subst hb;unfold execOp;simp only[ho,hx,hy];go_simp
theorem xgf{t t':TypeId}{b:Bool}{k:IntKind}(x y:Operand)(ho:o.op=.binOp .leq t x y t')(m n:Int)(hx:a.eval x=.int k m)(hy:a.eval y=.int k n)(hb:decide (m≤n)=b):(execOp a.eval o).run P w=.ok (.value (.bool b)) w:=by
 subst hb;unfold execOp;simp only[ho,hx,hy];go_simp
theorem xce{t t':TypeId}{b:Bool}{k:IntKind}(x y:Operand)(ho:o.op=.binOp .geq t x y t')(m n:Int)(hx:a.eval x=.int k m)(hy:a.eval y=.int k n)(hb:decide (n≤m)=b):(execOp a.eval o).run P w=.ok (.value (.bool b)) w:=by
 subst hb;unfold execOp;simp only[ho,hx,hy];go_simp
theorem xao{t t':TypeId}{b:Bool}{k:IntKind}(x y:Operand)(ho:o.op=.binOp .eql t x y t')(m n:Int)(hx:a.eval x=.int k m)(hy:a.eval y=.int k n)(hb:(m==n)=b):(execOp a.eval o).run P w=.ok (.value (.bool b)) w:=by
 subst hb;unfold execOp;simp only[ho,hx,hy];go_simp
theorem xd1{T T':Nat}(B:AB P T 32)(x y:Operand)(ho:o.op=.binOp .eql T x y T')(p q:D32)(ex:a.eval x=.agg p.c.toArray)(ey:a.eval y=.agg q.c.toArray)(b:Bool)(h:(p.l==q.l)=b) :
  (execOp a.eval o).run P w=.ok (.value (.bool b)) w:=by rw[xfu B x y ho p.l q.l ex ey p.h q.h,h]
theorem xkv{T T':Nat}(B:AB P T 32)(x y:Operand)(ho:o.op=.binOp .neq T x y T')(p q:D32)(ex:a.eval x=.agg p.c.toArray)(ey:a.eval y=.agg q.c.toArray)(b:Bool)(h:(!(p.l==q.l))=b) :
  (execOp a.eval o).run P w=.ok (.value (.bool b)) w:=by rw[xnm B x y ho p.l q.l ex ey p.h q.h,h]
end
section
variable {D:Nat→Prop}{w w':World}{gs g:Nat}{σ:Sb}{vs vf:Sv}
theorem xsr(h:StW D w gs σ)(hr:1≤σ.room∧σ.room≤65536)(j:Nat)(hj:j≤64)(hu:σ.used≤65536)(b:Bool)(hb:decide ((σ.used:Int)+258*(j:Int)≤(σ.room:Int))=b) :
  Calls prog 144 #[pG gs,iV j] w fun e w'=>e=.returned (.bool b)∧w=w':=by
 have HH:=hZ h;have k1:decide ((0:Int)<(σ.room:Int))=true:=by simp;omega
 have k2:decide ((j:Int)≤64)=true:=by simp;omega
 have k3:decide ((0:Int)≤(j:Int))=true:=by simp
 have HB:=hZ hb;have HI:Hid ((σ.used:Int)+258*(j:Int)=(σ.used:Int)+258*(j:Int)):=hZ rfl;have HM:Hid ((258:Int)*(j:Int)=258*(j:Int)):=hZ rfl;clear h hb;go_enter func144,ntmps144;have HL:=Loc.start w;go_upto_region 0 with fail;refine X1j ?_;go_upto_region 1 with fail;refine X80 ?_;intro K hK;(with_reducible refine(xjs HH.out).mono ?_);rintro e w ⟨rfl,rfl⟩;refine X5k ?_;clear hK K;refine xaa rfl _ (xbq (b:=true) _ _ rfl _ _ rfl rfl k1) ?_;refine X24 ?_;refine xac rfl _ (xce (b:=true) _ _ rfl _ _ rfl rfl k3) ?_;refine X81 ?_;refine xac rfl _ (xgf (b:=true) _ _ rfl _ _ rfl rfl k2) ?_;refine X81 ?_;refine X5i ?_;intro K hK;refine xad cf96 rfl _ rfl ?_;refine X1w ?_;(with_reducible refine(xi8 HH.out).mono ?_);rintro e w ⟨rfl,rfl⟩;refine X5k ?_;clear hK K
 refine X1m ?_;refine xac rfl _ (xib _ _ rfl _ _ _ rfl rfl HM.out (by omega)) ?_;refine X6 ?_;refine xac rfl _ (xa6 _ _ rfl _ _ _ rfl rfl HI.out (by omega)) ?_;refine X5j ?_;intro K hK;refine X7z ?_;(with_reducible refine(xjs HH.out).mono ?_);rintro e w ⟨rfl,rfl⟩;refine X5k ?_;clear hK K;refine xac rfl _ (xgf _ _ rfl _ _ rfl rfl HB.out) ?_;refine X82 ?_;go_wp2_with fail;go_ret;exact⟨rfl,rfl⟩
theorem xss(h:StW D w gs σ):Calls prog 143 #[pG gs,iV 0] w fun e w'=>e=.returned (iV 0)∧w=w':=by
 have HH:=hZ h;clear h;have HL:=Loc.start w;go_enter func143,ntmps143;go_upto_region 0 with fail;refine X1j ?_;go_upto_region 1 with fail;refine X2j ?_;intro K hK;refine X7t ?_;refine X1w ?_;(with_reducible refine(xhn HH.out).mono ?_);rintro e w ⟨rfl,rfl⟩;refine X2m ?_;clear hK K;go_upto_region 2 with fail;refine X2n ?_;go_upto_region 4 with fail;refine X5f ?_;refine no_implicit_lambda% (X2d ?_);refine X27 ?_;go_upto_region 6 with fail;refine X1j ?_;go_wp2_with fail;go_ret;exact⟨rfl,rfl⟩
theorem athand(h:StW D w gs σ)(z:Int)(n:Nd)(val:LU)(hG:Got σ z n val true)(hd:n.kind=1∨(n.kind=2∧n.depth=0))(hh:n.held≠0):Calls prog 143 #[pG gs,iV z] w (oB w (iV 0)):=by
 have HH:=hZ h;have HG:=hZ hG;have HD:=hZ hd
 have k1:(z==0)=false:=by
  rcases hG with⟨_,i,hz,_⟩ | ⟨e,_⟩
  ·simp;omega
  ·cases e
 have k2:(n.held==0)=false:=by simpa using hh
 clear h hG hd hh;obtain⟨w0,rfl,HL⟩:=lS w;go_enter func143,ntmps143;go_upto_region 0 with fail;refine X1j ?_;go_upto_region 1 with fail;refine X2j ?_;intro K hK;refine X7t ?_;refine X1w ?_;(with_reducible refine(xjt (HH.out.below HL.below) z n val HG.out HD.out).mono ?_);refine X7u ?_;clear hK K;intro w HL;go_upto_region 2 with fail;refine X2n ?_;go_upto_region 4 with fail;refine X12 ?_;refine X83 ?_;refine X84 ?_;refine X5i ?_;intro K hK;refine xad cf207 rfl _ rfl ?_;refine X1w ?_;(with_reducible refine(st_held (HH.out.below HL.below) z n val true HG.out).mono ?_);refine X4y ?_;clear hK K;intro w HL;refine X29 ?_;go_upto_region 6 with fail;refine X1j ?_;go_wp2_with fail;go_ret;exact⟨rfl,HL.below⟩
theorem Loc.belowR{w1 w:World}{L0 L:BL}(H:Loc w1 (Rest w1 L0) L w)(n:Nat)(hn:n≤w1.heap.size)(h0:∀ x∈L0,n≤x.1):Below n w1 w :=
 ⟨H.fr.os,H.fr.tape,H.fr.output,H.fr.size,fun k hk=>H.heap ⟨by omega,fun x hx e=>by have:=h0 x hx;omega⟩⟩
theorem xl6(h:StW D w gs σ)(root:Int)(key:D32)(A:Option Addr)(m c:Nat)(way:List Int)(fin:Int)(hway:Way σ key root way fin)(hl:way.length≤4096)
  (hroot:∀ u,StW D u gs σ→Calls prog 154 #[pG gs,iV root] u (oB u (iV 0)))
  (n:Nd) (val:LU) (ok:Bool) (hG:Got σ fin n val ok) (hk:n.kind≠1) :
  Calls prog 145 #[pG gs,iV root,key.a,.slice A m c] w fun e w'=>∃ v:Sv,e=.returned (.agg (Plc.cells ⟨v,fin,false,false⟩).toArray)∧w'.ownsRow 0 3 1 v.v way.length (iZ way)∧(∀ k,v.v.ownBlock=some k→w.heap.size≤k)∧Bw w w':=by
 have HH:=hZ h;have HR:=hZ hroot;have HW:=hZ hway;have HG:=hZ hG;have k1:((n.kind:Int)==1)=false:=by simp;omega
 clear h hroot hway hG hk;obtain⟨w0,rfl,HL⟩:=lS w;go_enter func145,ntmps145;go_upto_region 0 with fail;refine Xt ?_;refine X85 ?_;clear HL;intro g6 w HL;refine X6 ?_;refine xah xl4 rfl rfl HL ?_;clear HL;intro g8 w HL;refine X1z ?_;refine X86 ?_;intro hg6;refine X87 ?_;intro hg8 hg8l;refine X88 ?_;intro h68 hg6l;go_upto_region 1 with fail;refine X19 ?_;refine X89 ?_;refine X50 ?_;intro K hK;refine X8a ?_;refine X8b ?_;rintro e w ⟨v,rfl,ho,hvb,hb⟩;refine X8c ?_;intro hB1
 have hv8:∀ k,v.v.ownBlock=some k→w0.heap.size≤k∧k≠g8∧k≠g6:=fun k hk=>by
  have:=hvb k hk;have:=HL.below.size;omega
 replace HL:=HL.redo (T:=fun _=>False) (Fr.of_below hb) (fun _ _ f=>f);clear hb hvb;have HO:=hZ ho;clear ho;obtain⟨w1,rfl⟩:=eW w;refine X8d ?_;clear hK K;refine X8e ?_;refine xa3 sc71 rfl _ _ rfl HL 0 _ _ _ _ _ _ rfl rfl rfl rfl (by rw[Plc.len];decide) (Plc.s_above _ _) ?_;refine X33 ?_;clear HL;intro w HL;refine X8f ?_;refine xa3 sc3 rfl _ _ rfl HL 0 _ _ _ _ _ _ rfl rfl rfl rfl (by rw[Plc.len];decide) (Plc.s_fin _ _) ?_;refine X34 ?_;clear HL;intro w HL
 have hL0:∀ x∈[(g8,246,Plc.z.cells),(g6,24,key.c)],w0.heap.size≤x.1:=by
  intro x hx;simp at hx;rcases hx with rfl | rfl
  ·exact hg8
  ·exact hg6
 go_upto_region 2 with fail;refine X12 ?_;refine X8f ?_;refine X8g ?_;refine X50 ?_;intro K hK;refine X7w ?_;refine X8h ?_;refine X4y ?_;clear hK K;intro w HL;refine X1t ?_;go_upto_region 3 with fail;refine X8i ?_;refine X3v ?_;intro HL;refine X8l ?_;refine X8o ?_;refine X6 ?_;refine X4p ?_;refine X8p ?_;intro hb8 HX;clear HL;have HL:=HX;clear HX;replace hb8:=hb8.drew;go_upto_region 4 with fail;refine X8q ?_;refine X3v ?_;intro HL;refine X8l ?_;refine X8j ?_;refine X3b ?_;refine X8m ?_;refine X8k ?_;refine X3i ?_;refine X3g ?_;refine X8k ?_;refine X3i ?_;refine X6 ?_;refine X8r ?_;refine Xh ?_;intro K hK;refine xcx sc4 _ _ rfl g8 2 246 _ (.bool false) rfl hb8 rfl rfl (by rw[Plc.len];decide) ?_;intro w' hb' hf' _;rw[Plc.s_same] at hb'
 replace HL:=HL.frame hf' (fun k hk hd=>hd.2 (g8,246,Plc.z.cells) (.head _) hk.symm) (by simp;omega);refine hK _ _ (fun _=>HL) ?_;clear hK K hb8 hf';have hb8:=hb';clear hb';obtain⟨w,rfl⟩:∃ w,w=w':=⟨_,rfl⟩;refine X6 ?_;refine X8s ?_;refine Xh ?_;intro K hK;refine xcx sc4 _ _ rfl g8 3 246 _ (.bool false) rfl hb8 rfl rfl (by rw[Plc.len];decide) ?_;intro w' hb' hf' _;rw[Plc.s_other] at hb';replace HL:=HL.frame hf' (fun k hk hd=>hd.2 (g8,246,Plc.z.cells) (.head _) hk.symm) (by simp;omega);refine hK _ _ (fun _=>HL) ?_;clear hK K hb8 hf';have hb8:=hb';clear hb';obtain⟨w,rfl⟩:∃ w,w=w':=⟨_,rfl⟩;refine Xb ?_;refine X8t ?_;intro hB2
 have hO2:w.ownsRow 0 3 1 v.v way.length (iZ way):=xbm HO.out (fun k hk=>HL.heap ⟨by obtain⟨cs,hc⟩:=xb4 HO.out hk;exact hc.lt,fun x hx e=>by
  simp at hx;have:=hv8 k hk;rcases hx with rfl | rfl
  ·exact this.2.1 e.symm
  ·exact this.2.2 e.symm⟩)
 clear HL;have HL:=(Loc.start w).adopt (fun k=>k=g8) [(g8,246,Plc.cells ⟨v,fin,false,false⟩)] (by simp;exact hb8) (by simp);simp only[qn] at HL;obtain⟨w2,rfl⟩:=eW w;go_upto_region 5 with fail;refine Xt ?_;refine X8u ?_;refine X6 ?_;refine X8v ?_;refine X34 ?_;clear HL;intro w HL;go_wp2_with fail;refine Xc ?_;refine X8w ?_;have hf:=HL.frS;refine⟨v,rfl,xbm hO2 (fun k hk=>hf.block k (by obtain⟨cs,hc⟩:=xb4 hO2 hk;exact hc.lt) (hv8 k hk).2.1),fun k hk=>(hv8 k hk).1,hB2.trans ⟨hf.os,hf.tape,hf.output,hf.size,fun k hk=>hf.block k (by have:=hB2.size;omega) (by omega)⟩⟩
theorem xl7(h:StW D w gs σ)(root:Int)(key:D32)(A:Option Addr)(m c:Nat)(way:List Int)(fin:Int)(hway:Way σ key root way fin)(hl:way.length≤4096)
  (hroot:∀ u,StW D u gs σ→Calls prog 154 #[pG gs,iV root] u (oB u (iV 0)))
  (n:Nd) (val:LU) (ok:Bool) (hG:Got σ fin n val ok) (hk:n.kind=1) (hne:n.key.l≠key.l) :
  Calls prog 145 #[pG gs,iV root,key.a,.slice A m c] w fun e w'=>∃ v:Sv,e=.returned (.agg (Plc.cells ⟨v,fin,false,true⟩).toArray)∧w'.ownsRow 0 3 1 v.v way.length (iZ way)∧(∀ k,v.v.ownBlock=some k→w.heap.size≤k)∧Bw w w':=by
 have HH:=hZ h;have HR:=hZ hroot;have HW:=hZ hway;have HG:=hZ hG;have k1:((n.kind:Int)==1)=true:=by rw[hk];rfl
 have HNE:Hid ((n.key.l==key.l)=false):=hZ (by simpa using hne);clear hne;clear h hroot hway hG hk;obtain⟨w0,rfl,HL⟩:=lS w;go_enter func145,ntmps145;go_upto_region 0 with fail;refine Xt ?_;refine X85 ?_;clear HL;intro g6 w HL;refine X6 ?_;refine xah xl4 rfl rfl HL ?_;clear HL;intro g8 w HL;refine X1z ?_;refine X86 ?_;intro hg6;refine X87 ?_;intro hg8 hg8l;refine X88 ?_;intro h68 hg6l;go_upto_region 1 with fail;refine X19 ?_;refine X89 ?_;refine X50 ?_;intro K hK;refine X8a ?_;refine X8b ?_;rintro e w ⟨v,rfl,ho,hvb,hb⟩;refine X8c ?_;intro hB1
 have hv8:∀ k,v.v.ownBlock=some k→w0.heap.size≤k∧k≠g8∧k≠g6:=fun k hk=>by
  have:=hvb k hk;have:=HL.below.size;omega
 replace HL:=HL.redo (T:=fun _=>False) (Fr.of_below hb) (fun _ _ f=>f);clear hb hvb;have HO:=hZ ho;clear ho;obtain⟨w1,rfl⟩:=eW w;refine X8d ?_;clear hK K;refine X8e ?_;refine xa3 sc71 rfl _ _ rfl HL 0 _ _ _ _ _ _ rfl rfl rfl rfl (by rw[Plc.len];decide) (Plc.s_above _ _) ?_;refine X33 ?_;clear HL;intro w HL;refine X8f ?_;refine xa3 sc3 rfl _ _ rfl HL 0 _ _ _ _ _ _ rfl rfl rfl rfl (by rw[Plc.len];decide) (Plc.s_fin _ _) ?_;refine X34 ?_;clear HL;intro w HL
 have hL0:∀ x∈[(g8,246,Plc.z.cells),(g6,24,key.c)],w0.heap.size≤x.1:=by
  intro x hx;simp at hx;rcases hx with rfl | rfl
  ·exact hg8
  ·exact hg6
 go_upto_region 2 with fail;refine X12 ?_;refine X8f ?_;refine X8g ?_;refine X50 ?_;intro K hK;refine X7w ?_;refine X8h ?_;refine X4y ?_;clear hK K;intro w HL;refine X1t ?_;go_upto_region 3 with fail;refine X8i ?_;refine X8x ?_;intro HL;refine X8y ?_;refine X6 ?_;refine X8z ?_;refine X6 ?_;refine X5r ?_;refine X91 ?_;intro K hK;refine X92 ?_;refine X7q ?_;clear hK K;intro w HL;refine X94 ?_;refine X4p ?_;refine X8p ?_;intro hb8 HX;clear HL;have HL:=HX;clear HX;replace hb8:=hb8.drew;go_upto_region 4 with fail;refine X8q ?_;refine X3v ?_;intro HL;refine X8l ?_;refine X8j ?_;refine X3b ?_;refine X8m ?_;refine X8k ?_;refine X3i ?_;refine X71 ?_;refine X3i ?_;refine X93 ?_;refine X8r ?_;refine Xh ?_;intro K hK;refine xcx sc4 _ _ rfl g8 2 246 _ (.bool false) rfl hb8 rfl rfl (by rw[Plc.len];decide) ?_;intro w' hb' hf' _
 rw[Plc.s_same] at hb';replace HL:=HL.frame hf' (fun k hk hd=>hd.2 (g8,246,Plc.z.cells) (.head _) hk.symm) (by simp;omega);refine hK _ _ (fun _=>HL) ?_;clear hK K hb8 hf';have hb8:=hb';clear hb';obtain⟨w,rfl⟩:∃ w,w=w':=⟨_,rfl⟩;refine X6 ?_;refine X8s ?_;refine Xh ?_;intro K hK;refine xcx sc4 _ _ rfl g8 3 246 _ (.bool true) rfl hb8 rfl rfl (by rw[Plc.len];decide) ?_;intro w' hb' hf' _;rw[Plc.s_other] at hb';replace HL:=HL.frame hf' (fun k hk hd=>hd.2 (g8,246,Plc.z.cells) (.head _) hk.symm) (by simp;omega);refine hK _ _ (fun _=>HL) ?_;clear hK K hb8 hf';have hb8:=hb';clear hb';obtain⟨w,rfl⟩:∃ w,w=w':=⟨_,rfl⟩;refine Xb ?_;refine X8t ?_;intro hB2
 have hO2:w.ownsRow 0 3 1 v.v way.length (iZ way):=xbm HO.out (fun k hk=>HL.heap ⟨by obtain⟨cs,hc⟩:=xb4 HO.out hk;exact hc.lt,fun x hx e=>by
  simp at hx;have:=hv8 k hk;rcases hx with rfl | rfl
  ·exact this.2.1 e.symm
  ·exact this.2.2 e.symm⟩)
 clear HL;have HL:=(Loc.start w).adopt (fun k=>k=g8) [(g8,246,Plc.cells ⟨v,fin,false,true⟩)] (by simp;exact hb8) (by simp);simp only[qn] at HL;obtain⟨w2,rfl⟩:=eW w;go_upto_region 5 with fail;refine Xt ?_;refine X8u ?_;refine X6 ?_;refine X8v ?_;refine X34 ?_;clear HL;intro w HL;go_wp2_with fail;refine Xc ?_;refine X8w ?_;have hf:=HL.frS;refine⟨v,rfl,xbm hO2 (fun k hk=>hf.block k (by obtain⟨cs,hc⟩:=xb4 hO2 hk;exact hc.lt) (hv8 k hk).2.1),fun k hk=>(hv8 k hk).1,hB2.trans ⟨hf.os,hf.tape,hf.output,hf.size,fun k hk=>hf.block k (by have:=hB2.size;omega) (by omega)⟩⟩
end
section
variable {D:Nat→Prop}{w w':World}{gs g:Nat}{σ:Sb}{vs vf:Sv}
theorem xdq{P:Program}{w:World}{a:Act}{o:Oper}{t t':TypeId}{b:Bool}(x y:Operand)(ho:o.op=.binOp .neq t x y t')(m n:Int)(hx:a.eval x=.int .u8 m)(hy:a.eval y=.int .u8 n)(h:(m==n) = !b) :
  (execOp a.eval o).run P w=.ok (.value (.bool b)) w:=by
 unfold execOp;simp only[ho,hx,hy];go_simp;cases b<;>simp_all
theorem find_yes(h:StW D w gs σ)(root:Int)(key:D32)(way:List Int)(fin:Int)(hway:Way σ key root way fin)(hl:way.length≤4096)
  (hroot:∀ u,StW D u gs σ→Calls prog 154 #[pG gs,iV root] u (oB u (iV 0)))
  (n:Nd) (val:LU) (ok:Bool) (hG:Got σ fin n val ok) (hk:n.kind=1) (hne:n.key.l=key.l) (hvl:val.length≤1024) :
  Calls prog 93 #[pG gs,iV root,key.a] w fun e w'=>∃ v,e=.returned (.tuple #[v,.bool true,iV 0])∧OwnB w' w.heap.size 5 v val∧Bw w w':=by
 have HH:=hZ h;have HR:=hZ hroot;have HW:=hZ hway;have HG:=hZ hG;have k1:((n.kind:Int)==1) = !false:=by rw[hk];rfl
 have HNE:Hid ((!(n.key.l==key.l))=false):=hZ (by simpa using hne);clear h hroot hway hG hk hne;obtain⟨w0,rfl,HL⟩:=lS w;go_enter func93,ntmps93;go_upto_region 0 with fail;refine X2s ?_;clear HL;intro g5 w HL;refine X6 ?_;refine X7s ?_;have hg5:w0.heap.size≤g5:=Nat.le_of_not_lt (HL.own _ (.head _)).1;go_upto_region 1 with fail;refine X19 ?_;refine X6x ?_;refine X50 ?_;intro K hK;refine X8a ?_;refine X8b ?_;rintro e w ⟨v,rfl,ho,hvb,hb⟩;replace HL:=HL.next hb;clear hb ho hvb;refine X8d ?_;clear hK K;refine X7s ?_;have hK0:Blk w g5 24 key.c:=HL.blk (.head _);have hB0:Bw w0 w:=HL.below;clear HL;have HL:=Loc.start w;obtain⟨w1,rfl⟩:=eW w;go_upto_region 2 with fail;refine rB (Loc.P HL) [] [5,11] [0,1,2,3,4,5,6,7,8,9,10,12,11,13,14] 0 ?_;refine X3c ?_;intro HL;refine X3i ?_;refine X95 ?_
 refine Xg ?_;intro K hK;refine X7w ?_;(with_reducible refine(xcy (HH.out.below (hB0.trans (HL.below.mono hB0.size))) _ n val ok HG.out).mono ?_);refine X7q ?_;clear hK K;intro w HL;refine xab rfl rfl HL (fun W hW=>xdq _ _ rfl _ _ rfl rfl k1) ?_;refine X3j ?_;refine X95 ?_;refine xab rfl rfl HL (fun W hW=>xc9 ag24 hW _ rfl _ _ rfl _ _ _ hK0.lt hK0 (by rw[List.drop_zero,List.take_of_length_le (by rw[D32.cl];omega)]) (D32.cl _)) ?_;refine X91 ?_;intro K hK;(with_reducible refine(xij (HH.out.below (hB0.trans (HL.below.mono hB0.size))) _ n val ok HG.out).mono ?_);refine X7q ?_;clear hK K;intro w HL;refine xab rfl rfl HL (fun W hW=>xkv ab23 _ _ rfl n.key key rfl rfl _ HNE.out) ?_;refine X3k ?_;go_upto_region 4 with fail;refine X2j ?_;intro K hK;refine X96 ?_
 (with_reducible refine(xks (HH.out.below (hB0.trans (HL.below.mono hB0.size))) _ n val ok HG.out hvl).mono ?_);rintro e w ⟨v,rfl,hov,hb⟩;have hsz:w0.heap.size≤w.heap.size:=Nat.le_trans hB0.size (Nat.le_trans HL.fr.size hb.size);have hov2:=hov.mono (Nat.le_trans hB0.size HL.fr.size);replace HL:=HL.next hb;clear hb hov;refine X5k ?_;clear hK K;refine X7s ?_;go_wp2_with fail
 go_ret3
 exact⟨v,rfl,hov2,hB0.trans (HL.below.mono hB0.size)⟩
theorem xum(h:StP D w gs g σ vs vf)(d:Nat)(hd:d<256)(key:D32)(own other z:Int)(σ':Sb)(hb:tb key.l d=false)
  (hI:∀ u,StP D u gs g σ vs vf→Calls prog 210 #[pG gs,iV d,iV own,iV other] u (Goes D u gs g (.tuple #[iV z,iV 0]) σ')) :
  Calls prog 149 #[pG gs,iV d,key.a,iV own,iV other] w (Goes D w gs g (iV z) σ'):=by
 refine X97 ?_;intro HH HI;refine X7m ?_;intro C;rw[hb] at C;clear h hI hb;obtain⟨w0,rfl,HL⟩:=lS w;go_enter func149,ntmps149;go_upto_region 0 with fail;refine Xt ?_;refine X98 ?_;clear HL;intro g7 w HL;go_upto_region 1 with fail;refine X7r ?_;go_upto_region 2 with fail;refine X6z ?_;intro K hK;refine X5e ?_;refine X6u ?_;clear hK K;intro w HL;go_upto_region 4 with fail;refine X9b ?_;intro K hK;refine X9c ?_;rintro e w ⟨D',vs',vf',rfl,hP,hS⟩;have hS2:=(Stp.of_below HL.below).trans hS;clear HL hS;refine X7l ?_;clear hK K;go_upto_region 5 with fail;refine X7v ?_;go_wp2_with fail;go_ret;exact⟨_,_,_,rfl,hP,hS2⟩
theorem xpd(h:StP D w gs g σ vs vf)(d:Nat)(hd:d<256)(key:D32)(own other z:Int)(σ':Sb)(hb:tb key.l d=true)
  (hI:∀ u,StP D u gs g σ vs vf→Calls prog 210 #[pG gs,iV d,iV other,iV own] u (Goes D u gs g (.tuple #[iV z,iV 0]) σ')) :
  Calls prog 149 #[pG gs,iV d,key.a,iV own,iV other] w (Goes D w gs g (iV z) σ'):=by
 refine X97 ?_;intro HH HI;refine X7m ?_;intro C;rw[hb] at C;clear h hI hb;obtain⟨w0,rfl,HL⟩:=lS w;go_enter func149,ntmps149;go_upto_region 0 with fail;refine Xt ?_;refine X98 ?_;clear HL;intro g7 w HL;go_upto_region 1 with fail;refine X7r ?_;go_upto_region 2 with fail;refine X6z ?_;intro K hK;refine X5e ?_;refine X6u ?_;clear hK K;intro w HL;go_upto_region 3 with fail;refine X7r ?_;go_upto_region 4 with fail;refine X9b ?_;intro K hK;refine X9c ?_;rintro e w ⟨D',vs',vf',rfl,hP,hS⟩;have hS2:=(Stp.of_below HL.below).trans hS;clear HL hS;refine X7l ?_;clear hK K;go_upto_region 5 with fail;refine X7v ?_;go_wp2_with fail;go_ret;exact⟨_,_,_,rfl,hP,hS2⟩
end
end Go.Proofs.YtkjjdgnkelchfaaGreat
