import Derived.Test.YtkjjdgnkelchfaaGreatPNU18
set_option linter.unusedSimpArgs false
set_option linter.unusedVariables false
set_option maxRecDepth 100000
set_option maxHeartbeats 16000000
namespace Go.Proofs.YtkjjdgnkelchfaaGreat
open Go Go.RowKit Go.Proofs.Tryz
structure Pln where
 above:Sv
 there:Bool
 stays:Int
 frm:Int
 anew:Bool
def Pln.cells(x:Pln):List Value:=[x.above.v,.bool x.there,.int .i64 x.stays,.int .i64 x.frm,.bool x.anew]
theorem Pln.len(x:Pln):x.cells.length=5:=rfl
theorem Pln.one(x:Pln):∀ u∈x.cells,u.oneCell'=true:=by
 intro u hu;simp only[Pln.cells,List.mem_cons,List.not_mem_nil,or_false] at hu;rcases hu with rfl | rfl | rfl | rfl | rfl<;>rfl
def Pln.z:Pln:=⟨Sv.nil,false,0,0,false⟩
theorem Pln.g_above(x:Pln):x.cells[0]? = some (x.above.v):=rfl
theorem Pln.g_there(x:Pln):x.cells[1]? = some (Value.bool x.there):=rfl
theorem Pln.g_stays(x:Pln):x.cells[2]? = some (Value.int .i64 x.stays):=rfl
theorem Pln.g_frm(x:Pln):x.cells[3]? = some (Value.int .i64 x.frm):=rfl
theorem Pln.g_anew(x:Pln):x.cells[4]? = some (Value.bool x.anew):=rfl
theorem Pln.s_stays(x:Pln)(y:Int):x.cells.set 2 (iV y)=({x with stays:=y}:Pln).cells:=rfl
theorem Pln.s_frm(x:Pln)(y:Int):x.cells.set 3 (iV y)=({x with frm:=y}:Pln).cells:=rfl
theorem Pln.s_anew(x:Pln)(y:Bool):x.cells.set 4 (Value.bool y)=({x with anew:=y}:Pln).cells:=rfl
theorem bs343:BS prog 343 Pln.z.cells [(0,1),(1,1),(2,1),(3,1),(4,1)]:=BS.of underlying343 (by kernel_rfl) (by kernel_rfl)
theorem xp0(x:Sv)(b:Bool):Instr.fill (fun x=>[(0,1),(1,1),(2,1),(3,1),(4,1)].toArray[x]?) Pln.z.cells.toArray [(0,x.v),(1,.bool b)]=some ((⟨x,b,0,0,false⟩:Pln)).cells.toArray:=by
 refine xaj (vs:=[x.v]) rfl rfl rfl (by rw[Pln.len];decide) ?_;rw[xbg _ _ _ (by rw[Pln.len];decide)];rw[show Pln.z.cells.set 0 x.v=(⟨x,false,0,0,false⟩:Pln).cells from rfl];refine xaj (vs:=[.bool b]) rfl rfl rfl (by rw[Pln.len];decide) ?_;rw[xbg _ _ _ (by rw[Pln.len];decide)];rfl
section
variable {D:Nat→Prop}{w w':World}{gs g:Nat}{σ:Sb}{vs vf:Sv}
theorem xrk(h:StP D w gs g σ vs vf)(d:Nat)(hd:d<256)(key:D32)(own other z:Int)(σ':Sb)(hb:tb key.l d=false)
  (hI:∀ u,StP D u gs g σ vs vf→Calls prog 210 #[pG gs,iV d,iV own,iV other] u (Goes D u gs g (.tuple #[iV z,iV 0]) σ')) :
  Calls prog 234 #[pG gs,iV d,key.a,iV own,iV other] w (Goes D w gs g (iV z) σ'):=by
 refine X97 ?_;intro HH HI;refine X7m ?_;intro C;rw[hb] at C;clear h hI hb;obtain⟨w0,rfl,HL⟩:=lS w;go_enter func234,ntmps234;go_upto_region 0 with fail;refine Xt ?_;refine X98 ?_;clear HL;intro g7 w HL;go_upto_region 1 with fail;refine X7r ?_;go_upto_region 2 with fail;refine X6z ?_;intro K hK;refine X5e ?_;refine X6u ?_;clear hK K;intro w HL;go_upto_region 4 with fail;refine X9b ?_;intro K hK;refine X9c ?_;rintro e w ⟨D',vs',vf',rfl,hP,hS⟩;have hS2:=(Stp.of_below HL.below).trans hS;clear HL hS;refine X7l ?_;clear hK K;go_upto_region 5 with fail;refine X7v ?_;go_wp2_with fail;go_ret;exact⟨_,_,_,rfl,hP,hS2⟩
theorem xu6(h:StP D w gs g σ vs vf)(d:Nat)(hd:d<256)(key:D32)(own other z:Int)(σ':Sb)(hb:tb key.l d=true)
  (hI:∀ u,StP D u gs g σ vs vf→Calls prog 210 #[pG gs,iV d,iV other,iV own] u (Goes D u gs g (.tuple #[iV z,iV 0]) σ')) :
  Calls prog 234 #[pG gs,iV d,key.a,iV own,iV other] w (Goes D w gs g (iV z) σ'):=by
 refine X97 ?_;intro HH HI;refine X7m ?_;intro C;rw[hb] at C;clear h hI hb;obtain⟨w0,rfl,HL⟩:=lS w;go_enter func234,ntmps234;go_upto_region 0 with fail;refine Xt ?_;refine X98 ?_;clear HL;intro g7 w HL;go_upto_region 1 with fail;refine X7r ?_;go_upto_region 2 with fail;refine X6z ?_;intro K hK;refine X5e ?_;refine X6u ?_;clear hK K;intro w HL;go_upto_region 3 with fail;refine X7r ?_;go_upto_region 4 with fail;refine X9b ?_;intro K hK;refine X9c ?_;rintro e w ⟨D',vs',vf',rfl,hP,hS⟩;have hS2:=(Stp.of_below HL.below).trans hS;clear HL hS;refine X7l ?_;clear hK K;go_upto_region 5 with fail;refine X7v ?_;go_wp2_with fail;go_ret;exact⟨_,_,_,rfl,hP,hS2⟩
theorem xp1(h:StW D w gs σ)(z:Int)(n:Nd)(val:LU)(hG:Got σ z n val true)(d:Nat)(hd:d<256)(key:D32) :
  Calls prog 235 #[pG gs,iV z,iV d,key.a] w (oB w (iV (sdX key d n))):=by
 have HH:=hZ h;have HG:=hZ hG;refine X7m ?_;intro C;obtain⟨x,hx⟩:∃ x,sdX key d n=x:=⟨_,rfl⟩;rw[hx];unfold sdX at hx;clear h hG;obtain⟨w0,rfl,HL⟩:=lS w
 cases hb:tb key.l d with
 | true =>
  rw[hb] at C hx;rw[if_pos rfl] at hx;have HX:=hZ hx;clear hx hb;go_enter func235,ntmps235;go_upto_region 0 with fail;refine Xt ?_;refine X98 ?_;clear HL;intro g7 w HL;go_upto_region 1 with fail;refine X2j ?_;intro K hK;refine Xh1 ?_;refine X4a ?_;clear hK K;intro w HL;refine X1f ?_;go_upto_region 2 with fail;refine X6z ?_;intro K hK;refine X5e ?_;refine X6u ?_;clear hK K;intro w HL;go_upto_region 3 with fail;refine X7v ?_;go_wp2_with fail;go_ret;refine⟨?_,HL.below⟩;rw[HX.out];rfl
 | false =>
  rw[hb] at C hx;rw[if_neg (by decide)] at hx;have HX:=hZ hx;clear hx hb;go_enter func235,ntmps235;go_upto_region 0 with fail;refine Xt ?_;refine X98 ?_;clear HL;intro g7 w HL;go_upto_region 1 with fail;refine X2j ?_;intro K hK;refine Xh1 ?_;refine X4a ?_;clear hK K;intro w HL;refine X1f ?_;go_upto_region 2 with fail;refine X6z ?_;intro K hK;refine X5e ?_;refine X6u ?_;clear hK K;intro w HL;go_upto_region 4 with fail;refine X7v ?_;go_wp2_with fail;go_ret;refine⟨?_,HL.below⟩;rw[HX.out];rfl
end
theorem xmm{P:Program}{T:TypeId}{w0 w:World}{D:Nat→Prop}{L:BL}{o:Oper}{a:Act}{Q:Exit→Act→World→Prop}{K:Act→World→Prop}{n:Nat}(hi:AT P T n)(x y:Operand)(ho:o.op=.store T x y)(H:Loc w0 D L w)(i g t:Nat)(cs vs:List Value)(hx:a.eval x=.pointer (some ⟨g,0,none⟩))(hL:L[i]? = some (g,t,cs))
  (hy:a.eval y=.agg vs.toArray) (hn:vs.length=n) (hc:cs.length=n) (h1:∀ u∈vs,u.oneCell'=true) (h:∀ w',Loc w0 D (L.set i (g,t,vs)) w'→K (a.put o.dst undef) w'):o.wp P a w K Q :=
 xfg hi x y ho H i g 0 t cs vs vs hx hL hy hn (by omega) h1 (by simp[splice,hn,hc]) h
theorem IsT.any{σ:Sb}{z:Int}{d:Nat}{t:Tre}(h:IsT σ z d t)(hi:t.isIn=false):∀ e,IsT σ z e t:=fun e=>by
 cases t with
 | nil=>exact h
 | leaf k v=>exact h
 | inner l r=>cases hi
def thT(key:D32):Tre→Bool
 | .leaf k _=>k.l==key.l
 | _=>false
theorem side_has{key:D32}{d:Nat}{t:Tre}{v:LU}(h:t.Ok d)(hi:t.isIn=true)(hm:(key,v)∈t.ents):(key,v)∈(sdT key d t).ents:=by
 cases t with
 | nil=>cases hi
 | leaf k v=>cases hi
 | inner l r =>
  obtain⟨hd,o1,o2,b1,b2,_⟩:=h
  cases hb:tb key.l d with
  | true =>
   rcases List.mem_append.1 hm with hm | hm
   ·have:=b1 _ (xbs hm);rw[hb] at this;cases this
   ·simpa[sdT,hb] using hm
  | false =>
   rcases List.mem_append.1 hm with hm | hm
   ·simpa[sdT,hb] using hm
   ·have:=b2 _ (xbs hm);rw[hb] at this;cases this
theorem xs9{key:D32}{t:Tre}{v:LU}(h:t.Ok 0)(hm:(key,v)∈t.ents):∀ n:Nat,(∀ i,i<n→(subF key 0 t i).isIn=true)→(key,v)∈(subF key 0 t n).ents
 | 0,_=>hm
 | n+1,hi=>by
  rw[xdb,Nat.zero_add];exact side_has (xrh h n fun i hn=>hi i (by omega)).1 (hi n (by omega)) (xs9 h hm n fun i hn=>hi i (by omega))
def LkO(σ:Sb)(key:D32)(told:Tre)(m:Nat)(st fr:Int)(an:Bool):Prop :=
 (an=false∧∃ (T:Tre)(dd:Nat),T.isIn=false∧(∀ d,IsT σ st d T)∧dd≤m∧fr=(dd:Int) - 1∧SpK dd (subF key 0 told dd) key none T∧(0<dd→T≠.nil∧sdY key (dd - 1) (subF key 0 told (dd - 1))≠.nil)) ∨
 (an=true∧∃ d:Nat,d<m∧fr=(d:Int)∧(sdY key d (subF key 0 told d)).isIn=true∧IsT σ st (d+1) (sdY key d (subF key 0 told d))∧SpK (d+1) (subF key 0 told (d+1)) key none .nil)
def LkL(σ:Sb)(key:D32)(told:Tre)(dd:Nat)(st:Int)(th:Bool):Prop:=th=true→∃ T:Tre,T.isIn=false∧(∀ e,IsT σ st e T)∧SpK dd (subF key 0 told dd) key none T
section
variable {D:Nat→Prop}{w w':World}{gs g:Nat}{σ:Sb}{vs vf:Sv}
theorem look_any(h:StW D w gs σ)(root:Int)(key:D32)(told:Tre)(way:List Int)(fin:Int)(hw:WayT σ key 0 told root way fin)(hok:told.Ok 0)
  (hroot:∀ u,StW D u gs σ→Calls prog 154 #[pG gs,iV root] u (oB u (iV 0))) :
  Calls prog 233 #[pG gs,iV root,key.a] w fun e w'=>∃ (v:Sv)(st fr:Int)(an:Bool),e=.returned (.agg (Pln.cells ⟨v,thT key (subF key 0 told way.length),st,fr,an⟩).toArray)∧Rd w' v.A (iZ way)∧v.n=way.length∧(∀ ad,v.A=some ad→iZ way≠[]→w.heap.size≤ad.block)∧Bw w w'∧(thT key (subF key 0 told way.length)=true→LkO σ key told way.length st fr an):=by
 have hl:way.length≤256:=by have:=hw.ln (by omega);omega
 obtain⟨th,hth⟩:∃ th,thT key (subF key 0 told way.length)=th:=⟨_,rfl⟩;rw[hth]
 obtain⟨nf,vl,okf,hGF,hkf⟩:∃ nf vl okf,Got σ fin nf vl okf∧((nf.kind==1)&&(nf.key.l==key.l))=th:=by
  have h1:=hw.fn;have h2:=hw.out;generalize subF key 0 told way.length=T at *
  cases T with
  | nil =>
   have h1:fin=0:=h1;exact⟨Nd.z,[],false,.inr ⟨rfl,by omega,rfl,rfl⟩,by rw[← hth];rfl⟩
  | inner l r=>cases h2
  | leaf k v =>
   obtain⟨j,hj,e,c1,c2,c3,c4,_⟩:=h1;exact⟨_,_,true,.inl ⟨rfl,j,e,hj,rfl,rfl,c1⟩,by rw[c3,c4,← hth];rfl⟩
 have HLI:Hid (LkL σ key told way.length 0 th):=hZ (fun ht=>by
  rw[← hth] at ht;have h2:=hw.out;generalize subF key 0 told way.length=T at *
  cases T with
  | nil=>cases ht
  | inner l r=>cases h2
  | leaf k v =>
   simp only[thT,beq_iff_eq] at ht;have:=D32.ext ht;subst this
   exact⟨.nil,rfl,fun e=>rfl,spk_gone⟩)
 have HH:=hZ h;have HR:=hZ hroot;have HW:=hZ hw;have HGF:=hZ hGF;refine Xgq ?_;intro HSO;have HML:=hZ hl;clear h hroot hw hGF hok hth hl;obtain⟨w0,rfl,HL⟩:=lS w;go_enter func233,ntmps233;go_upto_region 0 with fail;refine X2s ?_;clear HL;intro g5 w HL;refine X6 ?_;refine xah xi6 rfl rfl HL ?_;clear HL;intro g6 w HL;refine X1z ?_;go_wp2_with fail;refine wp_scope_straight ?_;have hg5:w0.heap.size≤g5:=Nat.le_of_not_lt (HL.own _ (.tail _ (.head _))).1;have hg6:w0.heap.size≤g6:=Nat.le_of_not_lt (HL.own _ (.head _)).1;go_upto_region 1 with fail;refine X19 ?_;refine X89 ?_;refine X50 ?_;intro K hK;refine X8a ?_;(with_reducible refine(xku (HH.out.below HL.below) root key way fin HW.out.wy (by have:=HML.out;omega) HR.out).mono ?_);rintro e w ⟨v,rfl,ho,hvb,hb⟩;have hB5:=(HL.next hb).blk (.tail _ (.head _))
 have hB6:=(HL.next hb).blk (.head _);have hs5:=(HL.blk (.tail _ (.head _))).lt;have hs6:=(HL.blk (.head _)).lt;refine Xgs ?_;intro HB1;have hsz0:=HL.below.size
 have hWR:Rd w v.A (iZ way)∧v.n=way.length:=by
  obtain⟨A',c',e1,_,_,h4⟩:=xfq ho;obtain⟨vA,vn,vc⟩:=v;injection e1 with e1 e2 e3;subst e1 e2 e3;exact⟨h4,rfl⟩
 have hWV:∀ ad,v.A=some ad→iZ way≠[]→w0.heap.size≤ad.block∧ad.block≠g6:=fun ad e hne=>by
  have h2:=hvb ad.block (by
   rcases ho.2 with⟨e1,e2⟩ | ⟨gg,cc,_,e1,_⟩
   ·obtain⟨vA,vn,vc⟩:=v
    injection e1 with e1 e2 e3;subst e1;cases e
   ·obtain⟨vA,vn,vc⟩:=v
    injection e1 with e1 e2 e3
    subst e1;cases e;rfl)
  exact⟨by omega,by omega⟩
 have HWR:=hZ hWR;have HWV:=hZ hWV;have HP:=hZ (HH.out.below HB1.out);have hg56:g5≠g6:=fun e=>(List.pairwise_cons.1 HL.nd).1 _ (.head _) e.symm
 clear HL ho hvb hb hWR hWV hsz0;have HL:=Loc.start w;obtain⟨w2,rfl⟩:=eW w;refine X8d ?_;clear hK K;refine X7s ?_;have hO5:Old w2 g5:=hB5.lt;have hcK:(key.c.drop 0).take 32=key.c:=by rw[List.drop_zero,List.take_of_length_le (by rw[D32.cl];exact Nat.le_refl _)]
 have HB5:=hZ hB5;have HB6:=hZ hB6;clear hB5 hB6;go_upto_region 2 with fail
 go_cut [10] from 13 (fun p wx=>∃ ga,p=.pointer (some ⟨ga,0,none⟩)∧Loc w2 (Old w2) [(ga,343,Pln.cells ⟨v,th,0,0,false⟩)] wx)
 case first=>as_aux_lemma =>
  obtain⟨lf,hlf⟩:∃ lf,((nf.kind:Int)==1)=lf:=⟨_,rfl⟩;obtain⟨ke,hke⟩:∃ ke,(nf.key.l==key.l)=ke:=⟨_,rfl⟩;have HLF:=hZ hlf;have HKE:=hZ hke
  have HTH:Hid ((lf&&ke)=th):=hZ (by
   rw[← hkf,← hlf,← hke];congr 1;by_cases h9:nf.kind=1
   ·rw[h9];rfl
   ·rw[nB h9,nB (by omega)])
  clear hkf hlf hke
  cases lf with
  | true =>
   have HTH2:Hid (ke=th):=hZ (by have:=HTH.out;simpa using this);have HX:=HL.drew;refine rB (Loc.P HL) [14] [3,8,13,14] [0,1,2] 12 ?_;refine X8x ?_;intro HL;refine xcz [3,13] (by kernel_rfl) ?_;refine X4 ?_;refine⟨⟨rfl,?_⟩,⟨rfl,?_⟩,trivial⟩
   ·intro K hK
    refine X7w ?_;refine Xh2 ?_;refine Xh3 ?_;intro w hb HX HL;clear hb;refine X5v ?_;clear hK K;refine xbk [4,5,6,7,9] 6 (by kernel_rfl) ?_;refine X4 ?_;refine Xh4 ?_;refine Xh5 ?_;refine X6 ?_;refine xcz [8,13] (by kernel_rfl) ?_;refine X4 ?_;refine⟨⟨rfl,?_⟩,⟨rfl,?_⟩,trivial⟩
    ·intro K hK
     refine X90 ?_;refine Xh6 ?_;refine Xh3 ?_;intro w hb HX HL;clear hb;refine X5v ?_;clear hK K;refine xbk [10,11,12,13,14] 0 (by kernel_rfl) ?_;refine X4 ?_;refine Xh7 ?_;refine X93 ?_;refine Xh8 ?_;refine Xh ?_;intro K hK;refine xcj xi6 rfl HX ?_;clear HX HL;intro g10 w HX;refine Xh9 ?_;intro HL;refine X3y ?_;clear hK K;intro K hK;refine Xha ?_;clear HX HL;intro w HX;simp only[qg,qh] at HX;refine Xhb ?_;clear hK K;go_wp2_with fail;go_meet
     case rel=>exact⟨g10,rfl,by rw[← HTH2.out];exact HX⟩
    ·intro K hK
     refine xcj xi6 rfl HX ?_;clear HX HL;intro g10 w HX;refine Xh9 ?_;intro HL;refine X3x ?_;clear hK K;refine xbk [8,10,11,12,14] 0 (by kernel_rfl) ?_;refine Xbl ?_;intro K hK;refine X90 ?_;refine Xh6 ?_;refine Xh3 ?_;intro w hb HX HL;clear hb;refine X5v ?_;clear hK K;refine Xh7 ?_;refine X93 ?_;refine Xh8 ?_;refine Xh ?_;intro K hK;refine Xha ?_;clear HX HL;intro w HX;simp only[qg,qh] at HX;refine Xhb ?_;clear hK K;go_wp2_with fail;go_meet
     case rel=>exact⟨g10,rfl,by rw[← HTH2.out];exact HX⟩
   ·intro K hK
    refine xcj xi6 rfl HX ?_;clear HX HL;intro g10 w HX;refine Xh9 ?_;intro HL;refine X3x ?_;clear hK K;refine xbk [3,4,5,6,7,9,8,10,11,12,14] 0 (by kernel_rfl) ?_;refine Xbl ?_;intro K hK;refine X7w ?_;refine Xh2 ?_;refine Xh3 ?_;intro w hb HX HL;clear hb;refine X5v ?_;clear hK K;refine Xh4 ?_;refine Xh5 ?_;refine X91 ?_;intro K hK;refine Xh6 ?_;refine Xh3 ?_;intro w hb HX HL;clear hb;refine X5v ?_;clear hK K;refine Xh7 ?_;refine X93 ?_;refine Xh8 ?_;refine Xh ?_;intro K hK;refine Xha ?_;clear HX HL;intro w HX;simp only[qg,qh] at HX;refine Xhb ?_;clear hK K;go_wp2_with fail;go_meet
    case rel=>exact⟨g10,rfl,by rw[← HTH2.out];exact HX⟩
  | false =>
   have HTH2:Hid (false=th):=hZ (by have:=HTH.out;simpa using this);have HX:=HL.drew;refine rB (Loc.P HL) [14] [3,8,13,14] [0,1,2] 12 ?_;refine X8x ?_;intro HL;refine xcz [3,13] (by kernel_rfl) ?_;refine X4 ?_;refine⟨⟨rfl,?_⟩,⟨rfl,?_⟩,trivial⟩
   ·intro K hK
    refine X7w ?_;refine Xh2 ?_;refine Xh3 ?_;intro w hb HX HL;clear hb;refine X5v ?_;clear hK K;refine xbk [4,5,6,7,9] 6 (by kernel_rfl) ?_;refine X4 ?_;refine Xhc ?_;refine X8k ?_;refine X8j ?_;refine rg_forkc [8,13] (by kernel_rfl) ?_;refine X4 ?_;refine⟨.inr ⟨rfl,HL,?_⟩,.inl ⟨rfl,?_⟩,trivial⟩
    ·simp only[Act.put]
     refine Xu ?_;refine xbk [10,11,12,13,14] 0 (by kernel_rfl) ?_;refine X4 ?_;refine X8n ?_;refine X6 ?_;refine Xhd ?_;refine Xh ?_;intro K hK;refine xcj xi6 rfl HX ?_;clear HX HL;intro g10 w HX;refine Xh9 ?_;intro HL;refine X3y ?_;clear hK K;intro K hK;refine Xhe ?_;clear HX HL;intro w HX;simp only[qg,qh] at HX;refine Xhb ?_;clear hK K;go_wp2_with fail;go_meet
     case rel=>exact⟨g10,rfl,by rw[← HTH2.out];exact HX⟩
    ·intro K hK
     refine xcj xi6 rfl HX ?_;clear HX HL;intro g10 w HX;refine Xh9 ?_;intro HL;refine X3x ?_;clear hK K;refine xbk [8,10,11,12,14] 0 (by kernel_rfl) ?_;refine X4 ?_;refine X8o ?_;refine X6 ?_;refine Xhd ?_;refine Xh ?_;intro K hK;refine Xhe ?_;clear HX HL;intro w HX;simp only[qg,qh] at HX;refine Xhb ?_;clear hK K;go_wp2_with fail;go_meet
     case rel=>exact⟨g10,rfl,by rw[← HTH2.out];exact HX⟩
   ·intro K hK
    refine xcj xi6 rfl HX ?_;clear HX HL;intro g10 w HX;refine Xh9 ?_;intro HL;refine X3x ?_;clear hK K;refine xbk [3,4,5,6,7,9,8,10,11,12,14] 0 (by kernel_rfl) ?_;refine Xbl ?_;intro K hK;refine X7w ?_;refine Xh2 ?_;refine Xh3 ?_;intro w hb HX HL;clear hb;refine X5v ?_;clear hK K;refine Xhc ?_;refine X8k ?_;refine X8j ?_;refine X8o ?_;refine X6 ?_;refine Xhd ?_;refine Xh ?_;intro K hK;refine Xhe ?_;clear HX HL;intro w HX;simp only[qg,qh] at HX;refine Xhb ?_;clear hK K;go_wp2_with fail;go_meet
    case rel=>exact⟨g10,rfl,by rw[← HTH2.out];exact HX⟩
 case rest=>as_aux_lemma =>
  clear HL hkf HGF;obtain⟨g10,rfl,HL⟩:=hcut;obtain⟨w,rfl⟩:=eW wc;have HVN:=hZ HWR.out.2;go_upto_region 3 with fail;refine X12 ?_;refine Xgx ?_;refine X6 ?_;refine xaa rfl _ (xa2 _ _ rfl _ _ _ rfl rfl rfl (by have:=HML.out;omega)) ?_;refine X1a ?_;go_wp2_with fail
  go_step3
  go_wp2_with fail
  go_loopw [11,12] (fun d _ wr=>∃ (st:Int)(dd:Nat),d=.int .i64 ((dd:Int) - 1)∧dd≤way.length∧Loc w2 (Old w2) [(g10,343,Pln.cells ⟨v,th,st,0,false⟩)] wr∧LkL σ key told dd st th) (fun d _ _=>(intOf d+1).toNat)
  case atStart=>exact⟨0,way.length,rfl,Nat.le_refl _,HL,HLI.out⟩
  case round=>as_aux_lemma =>
   clear HL HLI;obtain⟨st,dd,hdv,hd1,HL,hlk⟩:=hrel;obtain⟨w,rfl⟩:=eW wr;have HLK:=hZ hlk;clear hlk;by_cases hlt:0<dd
   ·obtain⟨d,rfl⟩:∃ d,dd=d+1:=⟨dd - 1,by omega⟩
    rw[show((d+1:Nat):Int) - 1=(d:Int) by omega] at hdv;subst hdv;have k4:decide ((0:Int)≤(d:Int))=true:=by simp
    obtain⟨zw,n5,v5,hat5,hG5,hX5,hX0⟩:=xrj HW.out (σ1:=σ) (fun i hi hc=>⟨hi,rfl,rfl,hc⟩) d hd1;have HG5:=hZ hG5;have hsd:=HSO.out d (by omega);refine Xgy ?_;intro hsi s1 s2 s3 s4 s5 s6 s7;have HD256:=hZ s4
    have HUP:∀ T,Hid (SpK (d+1) (subF key 0 told (d+1)) key none T→SpK d (subF key 0 told d) key none (jnT key d T (sdY key d (subF key 0 told d)))):=fun T=>hZ (fun h=>by
     rw[xdb,Nat.zero_add] at h
     exact xn9 hsd.1 hsd.2.1 hsi h)
    refine Xgz ?_;intro HAT;obtain⟨ad,hA5,_⟩:=HWR.out.1 (by rw[xqx];omega);have HSV:Hid (v.v=.slice (some ad) way.length v.c):=hZ (by obtain⟨vA,vn,vc⟩:=v;have h1:=HVN.out;simp only at hA5 h1;rw[Sv.v,hA5,h1]);have HRD:∀ (L:BL) wx,Loc w2 (Old w2) L wx→Hid (Rd wx (some ad) (iZ way)):=fun L wx hx=>hZ (by have:=hx.rdO HWR.out.1;rw[hA5] at this;exact this)
    have HDL:Hid (d<way.length):=hZ hd1;obtain⟨To,hTo⟩:∃ To,sdY key d (subF key 0 told d)=To:=⟨_,rfl⟩;rw[hTo] at hX5 hX0;have HTO:=hZ hTo;obtain⟨zo,hzo⟩:∃ zo,sdX key d n5=zo:=⟨_,rfl⟩;have CA:∀ u,StW D u gs σ→Hid (Calls prog 235 #[pG gs,iV zw,iV d,key.a] u (oB u (iV zo))):=fun u hu=>hZ (by rw[← hzo];exact xp1 hu zw n5 v5 hG5 d s4 key)
    rw[hzo] at hX5 hX0;have HX5:=hZ hX5;have HX0:=hZ hX0;clear hG5 HG5 hX5 hX0 hsd hsi s1 s2 s3 s4 s5 s6 s7 hzo hA5 hat5 hTo;go_upto_region 4 with fail;refine X12 ?_;refine xaa rfl _ (xce (b:=true) _ _ rfl _ _ rfl rfl k4) ?_;refine X1z ?_;go_upto_region 6 with fail;refine rB (Loc.P HL) [] [7] [0,1,2,3,4,5,6,7,8] 0 ?_;refine X8x ?_;intro HL;refine xab rfl rfl HL (fun W hW=>xaz sl71 (.tmp 42) _ rfl ad way.length v.c d .i64 HSV.out rfl HDL.out) ?_;refine X6 ?_;refine xab rfl rfl HL (fun W hW=>xdh sc3 _ rfl ad (d*1) _ _ rfl (HRD _ _ hW).out HAT.out) ?_;refine X3g ?_;refine Xh5 ?_;refine Xh ?_;intro K hK;refine xad cf235 rfl _ rfl ?_;refine X1w ?_;(with_reducible refine((CA _ (HP.out.below HL.below)).out).mono ?_);refine X7q ?_;clear hK K;intro w HL;refine X4p ?_;by_cases h0:zo=0
    ·have k8:(zo==0)=true:=by simpa using h0
     go_upto_region 8 with fail;refine X12 ?_;refine xaa rfl _ (xao (b:=true) _ _ rfl _ _ rfl rfl k8) ?_;refine X1a ?_;go_upto_region 5 with fail;refine X12 ?_;refine xaa rfl _ (xa2 _ _ rfl _ _ _ rfl rfl rfl (by have:=HDL.out;have:=HML.out;omega)) ?_;refine X1a ?_;go_wp2_with fail;go_roundw
     case rel=>exact⟨st,d,rfl,by omega,HL,fun ht=>by
      obtain⟨T,t1,t2,t3⟩:=HLK.out ht;have:=(HUP T).out t3;rw[HTO.out,HX0.out.1 h0,jn_gone t1] at this
      exact⟨T,t1,t2,this⟩⟩
     case measure=>simp[intOf]<;>omega
    ·have k8:(zo==0)=false:=by simpa using h0
     go_upto_region 8 with fail;refine X12 ?_;refine Xhf ?_;refine X1a ?_;by_cases h1:st=0
     ·have k9:(st==0)=true:=by simpa using h1
      go_upto_region 9 with fail;refine Xt ?_;refine Xhg ?_;refine Xhh ?_;refine X6 ?_;refine xaa rfl _ (xa9 (b:=false) _ _ rfl _ _ rfl rfl k9) ?_;refine X1a ?_;obtain⟨no,vo,oko,hGo,_,hko⟩:=HX5.out.got;have HGO:=hZ hGo
      cases hto:To.isIn with
      | false =>
       have k10:((no.kind:Int)==1)=true:=by
        rw[hko]
        cases To with
        | nil=>exact absurd (HX0.out.2 rfl) h0
        | leaf k v=>rfl
        | inner l r=>cases hto
       clear hGo hko;go_upto_region 10 with fail;refine X7x ?_;intro K hK;(with_reducible refine(xcy (HP.out.below HL.below) zo no vo oko HGO.out).mono ?_);refine X4y ?_;clear hK K;intro w HL;refine xaa rfl _ (xao (b:=true) _ _ rfl _ _ rfl rfl k10) ?_;refine X1a ?_;go_upto_region 11 with fail;refine X12 ?_;refine Xhg ?_;refine X6 ?_;refine xa3 sc3 rfl _ _ rfl HL 0 _ _ _ _ _ _ rfl rfl rfl rfl (by rw[Pln.len];decide) (Pln.s_stays _ _) ?_;refine X34 ?_;clear HL;intro w HL;go_upto_region 5 with fail;refine X12 ?_;refine xaa rfl _ (xa2 _ _ rfl _ _ _ rfl rfl rfl (by have:=HDL.out;have:=HML.out;omega)) ?_;refine X1a ?_;go_wp2_with fail;go_roundw
       case rel=>exact⟨zo,d,rfl,by omega,HL,fun ht=>by
        obtain⟨T,t1,t2,t3⟩:=HLK.out ht;have t4:T=.nil:=by have:=t2 0;rw[h1] at this;exact this.zero
        subst t4;have:=(HUP .nil).out t3;rw[HTO.out,jn_leaf hto] at this
        exact⟨To,hto,HX5.out.any hto,this⟩⟩
       case measure=>simp[intOf]<;>omega
      | true =>
       have k10:((no.kind:Int)==1)=false:=by
        rw[hko]
        cases To with
        | nil=>cases hto
        | leaf k v=>cases hto
        | inner l r=>rfl
       clear hGo hko;go_upto_region 10 with fail;refine X7x ?_;intro K hK;(with_reducible refine(xcy (HP.out.below HL.below) zo no vo oko HGO.out).mono ?_);refine X4y ?_;clear hK K;intro w HL;refine xaa rfl _ (xao (b:=false) _ _ rfl _ _ rfl rfl k10) ?_;refine X1a ?_;go_upto_region 7 with fail;refine X12 ?_;refine Xhg ?_;refine X6 ?_;refine xa3 sc3 rfl _ _ rfl HL 0 _ _ _ _ _ _ rfl rfl rfl rfl (by rw[Pln.len];decide) (Pln.s_stays _ _) ?_;refine X33 ?_;clear HL;intro w HL;refine xaa rfl _ (xaf xso _ rfl _ rfl) ?_;refine X6 ?_;refine xa3 sc4 rfl _ _ rfl HL 0 _ _ _ _ _ _ rfl rfl rfl rfl (by rw[Pln.len];decide) (Pln.s_anew _ _) ?_;refine X34 ?_;clear HL;intro w HL
       have HFIN:Hid (th=true→LkO σ key told way.length zo (d:Int) true):=hZ (fun ht=>by
        obtain⟨T,t1,t2,t3⟩:=HLK.out ht;have t4:T=.nil:=by have:=t2 0;rw[h1] at this;exact this.zero
        subst t4
        exact .inr ⟨rfl,d,HDL.out,rfl,by rw[HTO.out];exact hto,by rw[HTO.out];exact HX5.out,t3⟩)
       go_upto_region 12 with fail;refine X12 ?_;refine Xhi ?_;refine X6 ?_;refine xa3 sc3 rfl _ _ rfl HL 0 _ _ _ _ _ _ rfl rfl rfl rfl (by rw[Pln.len];decide) (Pln.s_frm _ _) ?_;refine X34 ?_;clear HL;intro w HL;have HY:=HL.adopt (fun k=>k=g6) [(g6,343,Pln.z.cells)] (by simp;exact HB6.out) (by simp);simp only[qm,qn] at HY;clear HL;have HL:=HY;clear HY;go_upto_region 13 with fail;refine Xt ?_;refine Xhj ?_;refine X6 ?_;refine Xhk ?_;refine X34 ?_;clear HL;intro w HL;go_wp2_with fail;refine Xhl ?_;refine Xhm ?_;have hf:=HL.frS;exact⟨v,zo,(d:Int),true,rfl,HWR.out.1.keepE HL (fun hne ad e=>⟨HWR.out.1.lt hne e,(HWV.out ad e hne).2⟩),HVN.out,fun ad e hne=>(HWV.out ad e hne).1,HB1.out.trans ⟨hf.os,hf.tape,hf.output,hf.size,fun k hk=>hf.block k (by have:=HB1.out.size;omega) (fun e=>by omega)⟩,HFIN.out⟩
     ·have k9:(st==0)=false:=by simpa using h1
      go_upto_region 9 with fail;refine Xt ?_;refine Xhg ?_;refine Xhh ?_;refine X6 ?_;refine xaa rfl _ (xa9 (b:=true) _ _ rfl _ _ rfl rfl k9) ?_;refine X1a ?_
      have HFIN:Hid (th=true→LkO σ key told way.length st (d:Int) false):=hZ (fun ht=>by
       obtain⟨T,t1,t2,t3⟩:=HLK.out ht;refine .inl ⟨rfl,T,d+1,t1,t2,HDL.out,by omega,t3,fun _=>⟨fun e=>?_,fun e=>?_⟩⟩
       ·subst e;exact h1 (t2 0)
       ·rw[Nat.add_sub_cancel,HTO.out] at e
        exact h0 (HX0.out.2 e))
      go_upto_region 12 with fail;refine X12 ?_;refine Xhi ?_;refine X6 ?_;refine xa3 sc3 rfl _ _ rfl HL 0 _ _ _ _ _ _ rfl rfl rfl rfl (by rw[Pln.len];decide) (Pln.s_frm _ _) ?_;refine X34 ?_;clear HL;intro w HL;have HY:=HL.adopt (fun k=>k=g6) [(g6,343,Pln.z.cells)] (by simp;exact HB6.out) (by simp);simp only[qm,qn] at HY;clear HL;have HL:=HY;clear HY;go_upto_region 13 with fail;refine Xt ?_;refine Xhj ?_;refine X6 ?_;refine Xhk ?_;refine X34 ?_;clear HL;intro w HL;go_wp2_with fail;refine Xhl ?_;refine Xhm ?_;have hf:=HL.frS;exact⟨v,st,(d:Int),false,rfl,HWR.out.1.keepE HL (fun hne ad e=>⟨HWR.out.1.lt hne e,(HWV.out ad e hne).2⟩),HVN.out,fun ad e hne=>(HWV.out ad e hne).1,HB1.out.trans ⟨hf.os,hf.tape,hf.output,hf.size,fun k hk=>hf.block k (by have:=HB1.out.size;omega) (fun e=>by omega)⟩,HFIN.out⟩
   ·have hdd:dd=0:=by omega
    subst hdd;subst hdv;have k4:decide ((0:Int)≤((0:Nat):Int) - 1)=false:=by decide
    go_upto_region 4 with fail;refine X12 ?_;refine xaa rfl _ (xce (b:=false) _ _ rfl _ _ rfl rfl k4) ?_;refine X1z ?_
    have HFIN:Hid (th=true→LkO σ key told way.length st (((0:Nat):Int) - 1) false):=hZ (fun ht=>by
     obtain⟨T,t1,t2,t3⟩:=HLK.out ht
     exact .inl ⟨rfl,T,0,t1,t2,Nat.zero_le _,rfl,t3,fun h=>absurd h (Nat.lt_irrefl _)⟩)
    go_upto_region 12 with fail;refine X12 ?_;refine Xhi ?_;refine X6 ?_;refine xa3 sc3 rfl _ _ rfl HL 0 _ _ _ _ _ _ rfl rfl rfl rfl (by rw[Pln.len];decide) (Pln.s_frm _ _) ?_;refine X34 ?_;clear HL;intro w HL;have HY:=HL.adopt (fun k=>k=g6) [(g6,343,Pln.z.cells)] (by simp;exact HB6.out) (by simp);simp only[qm,qn] at HY;clear HL;have HL:=HY;clear HY;go_upto_region 13 with fail;refine Xt ?_;refine Xhj ?_;refine X6 ?_;refine Xhk ?_;refine X34 ?_;clear HL;intro w HL;go_wp2_with fail;refine Xhl ?_;refine Xhm ?_;have hf:=HL.frS;exact⟨v,st,(((0:Nat):Int) - 1),false,rfl,HWR.out.1.keepE HL (fun hne ad e=>⟨HWR.out.1.lt hne e,(HWV.out ad e hne).2⟩),HVN.out,fun ad e hne=>(HWV.out ad e hne).1,HB1.out.trans ⟨hf.os,hf.tape,hf.output,hf.size,fun k hk=>hf.block k (by have:=HB1.out.size;omega) (fun e=>by omega)⟩,HFIN.out⟩
end
def mkD(th:Bool)(z:Int):Value:=.tuple #[iV z,.bool th,iV 0]
def DeO(D:Nat→Prop)(w:World)(gs g:Nat)(σ:Sb)(R:List Int)(told:Tre)(key:D32)(e:Ending)(w':World):Prop:=∃ th:Bool,WrO D w gs g σ R told key none (mkD th) e w'
section
variable {D:Nat→Prop}{w w1 wx:World}{gs g:Nat}{σ σ1:Sb}{vs vf:Sv}{RR R R':List Int}
theorem xta(hI:σ1.Inv RR [])(d:Nat)(hd:d<256)(key:D32)(own other:Int)(t o:Tre)(ht:IsT σ1 own (d+1) t)(ho:IsT σ1 other (d+1) o)(hok:(jnK key d t o).Ok d)
  (hR:∀ z,RR.count z=R'.count z+(if z=own∧own≠0 then 1 else 0)+(if z=other∧other≠0 then 1 else 0)) (hRl:RR.length≤536870912) (hroom:σ1.used<σ1.room) (hsz:t.size+o.size≤1000000) :
  ∃ (z:Int)(σ2:Sb),(∀ (D:Nat→Prop)(w:World)(vs vf:Sv),StP D w gs g σ1 vs vf→Calls prog 234 #[pG gs,iV d,key.a,iV own,iV other] w (Goes D w gs g (iV z) σ2)) ∧
   z≠0∧σ2.Inv (z::R') []∧σ1.Stays σ2∧IsT σ2 z d (jnK key d t o)∧σ2.room=σ1.room∧σ2.used=σ1.used+1:=by
 unfold jnK at hok ⊢
 cases hb:tb key.l d with
 | true =>
  rw[hb] at hok;obtain⟨z,σ2,h1,h2⟩:=xh3 hI d hd other own o t ho ht hok (R':=R') (fun z=>by rw[hR z];omega) hRl hroom (by omega);exact⟨z,σ2,fun D w vs vf h=>xu6 h d hd key own other z σ2 hb (fun u hu=>h1 D u gs g vs vf hu),h2⟩
 | false =>
  rw[hb] at hok;obtain⟨z,σ2,h1,h2⟩:=xh3 hI d hd own other t o ht ho hok (R':=R') hR hRl hroom hsz;exact⟨z,σ2,fun D w vs vf h=>xrk h d hd key own other z σ2 hb (fun u hu=>h1 D u gs g vs vf hu),h2⟩
def DeL(D:Nat→Prop)(w2:World)(gs g:Nat)(σ:Sb)(R:List Int)(key:D32)(told:Tre)(m:Nat)(v d:Value)(wr:World):Prop :=
 ∃ (T:Tre)(z:Int)(σ5:Sb)(dd:Nat),v=.int .i64 z∧d=.int .i64 ((dd:Int) - 1)∧dd≤m∧InS D w2 gs g σ (rt1 z R) (σ.used+1+(256 - dd)) σ5 wr∧IsT σ5 z dd T∧SpK dd (subF key 0 told dd) key none T∧(0<dd→z≠0∧T.keys≠[]∧(T.isIn=true∨sdY key (dd - 1) (subF key 0 told (dd - 1))≠.nil))
theorem del_any(h:StP D w gs g σ vs vf)(R:List Int)(root:Int)(told:Tre)(hI:σ.Inv (rt1 root R) [])(ht:IsT σ root 0 told)(hok:told.Ok 0)(key:D32)
  (hRl:R.length≤400000000) (hts:told.size≤400000) (hfit:σ.used+258≤σ.room) :
  Calls prog 191 #[pG gs,iV root,key.a] w (DeO D w gs g σ R told key):=by
 refine Xcz ?_;intro HH HI HT;have HOK:=hZ hok;have HF:=hZ hfit;have HRL:Hid ((rt1 root R).length≤400000001∧R.length≤400000000):=hZ ⟨by have:=xd5 root R;omega,hRl⟩;have HTS:=hZ hts;have r1:=h.sb.ok.r1;have r2:=h.sb.ok.r2;obtain⟨way,fin,hw⟩:=xjz σ key told root 0 ht hok;have HW:=hZ hw;refine Xgq ?_;intro HSO;have HML:Hid (way.length≤256):=hZ (by have:=hw.ln (by omega);omega);refine Xgr ?_;intro HRT;have HRO:Hid (∀ u,StW D u gs σ→Calls prog 154 #[pG gs,iV root] u (oB u (iV 0))):=hZ (fun u hu=>by obtain⟨g',vs',vf',hu'⟩:=hu;exact xn2 hu' ht);obtain⟨th,hth⟩:∃ th,thT key (subF key 0 told way.length)=th:=⟨_,rfl⟩;have HTH:=hZ hth
 have CF:∀ u,Bw w u→Hid (Calls prog 233 #[pG gs,iV root,key.a] u fun e w'=>∃ (v:Sv)(st fr:Int)(an:Bool),e=.returned (.agg (Pln.cells ⟨v,th,st,fr,an⟩).toArray)∧Rd w' v.A (iZ way)∧v.n=way.length∧(∀ ad,v.A=some ad→iZ way≠[]→u.heap.size≤ad.block)∧Bw u w'∧(th=true→LkO σ key told way.length st fr an)):=fun u hu=>hZ (by
  have:=look_any (h.below hu).sw root key told way fin hw hok HRO.out;rw[hth] at this
  exact this)
 have hDO:∀ k,D k→k<w.heap.size:=h.sb.lt;clear h hI ht hok hfit hRl hts hw hth;obtain⟨w0,rfl,HL⟩:=lS w;go_enter func191,ntmps191;go_upto_region 0 with fail;refine X2s ?_;clear HL;intro g5 w HL;refine X6 ?_;refine X7s ?_;go_upto_region 1 with fail;refine X2j ?_;intro K hK;refine X9g ?_;(with_reducible refine(HRT.out _ (HH.out.below HL.below)).mono ?_);refine X7u ?_;clear hK K;intro w HL;go_upto_region 2 with fail;refine X2n ?_;go_upto_region 4 with fail;refine X1v ?_;intro K hK;refine X9h ?_;refine X9i ?_;rintro e w ⟨rfl,rfl⟩;refine X1y ?_;clear hK K;refine X28 ?_;have hb50:w0.heap.size≤g5:=Nat.le_of_not_lt (HL.own _ (.head _)).1;go_upto_region 6 with fail;refine X19 ?_;refine X6x ?_;refine X50 ?_;intro K hK;refine xad cf233 rfl _ rfl ?_;refine X1w ?_;(with_reducible refine((CF _ HL.below).out).mono ?_)
 rintro e w ⟨v,st,fr,an,rfl,hrd,hvn,hvb,hb,hlk⟩;refine Xgs ?_;intro HB1;have hsz5:=(HL.blk (.head _)).lt;have hsz0:=HL.below.size;have HL1:=HL.after hb
 have hWV:∀ ad,v.A=some ad→iZ way≠[]→w0.heap.size≤ad.block∧ad.block<w.heap.size∧ad.block≠g5:=fun ad e hne=>by
  have h1:=hrd.lt hne e;have h2:=hvb ad e hne;exact⟨by omega,h1,by omega⟩
 have HLK:=hZ hlk;clear HL hvb hb hlk;have HL:=HL1;clear HL1;obtain⟨w1,rfl⟩:=eW w;refine X5k ?_;clear hK K;refine xah xi6 rfl rfl HL ?_;clear HL;intro g10 w HL;refine X6 ?_;refine xbo xl2 rfl _ _ rfl HL 0 _ _ Pln.z.cells _ rfl rfl rfl (Pln.len _) (Pln.len _) (Pln.one _) ?_;refine X2t ?_;clear HL;intro w HL
 have HP0:Hid (StP D w gs g σ vs vf∧Bw w0 w):=hZ (by
  have h1:Bw w0 w:=HB1.out.trans (HL.belowR _ HB1.out.size (by intro x hx;simp at hx;rw[hx];exact hb50))
  exact⟨HH.out.below h1,h1⟩)
 have hB5:Blk w g5 24 key.c:=HL.blk (.tail _ (.head _));have hB10:Blk w g10 343 (Pln.cells ⟨v,th,st,fr,an⟩):=HL.blk (.head _);have hW2:Rd w v.A (iZ way):=hrd.keepE HL (fun hne ad e=>⟨(hWV ad e hne).2.1,fun x hx ee=>by simp at hx;rw[hx] at ee;exact(hWV ad e hne).2.2 ee.symm⟩);have hD5 : ¬ D g5:=fun h=>by have:=hDO _ h;omega
 have hD10 : ¬ D g10:=fun h=>by
  have h1:=hDO _ h;have h2:=HB1.out.size;have h3 : ¬ Rest w1 _ g10:=(HL.own _ (.head _)).1;exact h3 ⟨by omega,fun x hx ee=>by simp at hx;rw[hx] at ee;have:g5=g10:=ee;omega⟩
 have HDV:Hid (∀ ad,v.A=some ad→iZ way≠[]→ad.block<w.heap.size∧¬ D ad.block):=hZ (fun ad e hne=>⟨by have:=(hWV ad e hne).2.1;have:=HL.fr.size;omega,fun hd=>by have:=hDO _ hd;have:=(hWV ad e hne).1;omega⟩);have HVN:=hZ hvn;clear HL hrd hvn hWV HB1;obtain⟨w2,rfl⟩:=eW w;have hO5:Old w2 g5∧¬ D g5:=⟨hB5.lt,hD5⟩;have hO10:Old w2 g10∧¬ D g10:=⟨hB10.lt,hD10⟩;have hc0:w2.cell? ⟨g10,0,none⟩=some v.v:=by rw[hB10.cell];exact Pln.g_above _
 have hc1:w2.cell? ⟨g10,1,none⟩=some (.bool th):=by rw[hB10.cell];exact Pln.g_there _
 have hc2:w2.cell? ⟨g10,2,none⟩=some (iV st):=by rw[hB10.cell];exact Pln.g_stays _
 have hc3:w2.cell? ⟨g10,3,none⟩=some (iV fr):=by rw[hB10.cell];exact Pln.g_frm _
 have hc4:w2.cell? ⟨g10,4,none⟩=some (.bool an):=by rw[hB10.cell];exact Pln.g_anew _
 have hcK:(key.c.drop 0).take 32=key.c:=by rw[List.drop_zero,List.take_of_length_le (by rw[D32.cl];exact Nat.le_refl _)]
 refine Xgt ?_;intro HIN;have HWR:=hZ hW2;have HB5:=hZ hB5;have HS0:Hid (Stp D w0 D w2):=hZ (Stp.of_below HP0.out.2);clear hB5 hB10 hW2 hD5 hD10;have HL:=HIN.out.st.loc;refine Xgu ?_;intro HRDW;go_upto_region 7 with fail;refine Xt ?_;refine xaa rfl _ (xaf fa343_1 _ rfl _ rfl) ?_;refine X6 ?_;refine xaa rfl _ (xa8 sc4 HL _ rfl _ rfl _ hO10 hc1) ?_;refine X28 ?_
 cases th with
 | false =>
  go_upto_region 8 with fail;refine X12 ?_;refine X7s ?_;go_wp2_with fail
  go_ret3
  refine⟨false,told,root,D,vs,vf,σ,rfl,HP0.out.1,HS0.out,HI.out,(Sb.Keeps.refl σ R),HT.out,rfl,by omega,?_⟩
  have hno:∀ x,(key,x)∉told.ents:=fun x hx=>by
   have h1:=xs9 HOK.out hx way.length (fun i hi=>(HW.out.sub i hi).1);have h2:=HTH.out;have h3:=HW.out.out;generalize subF key 0 told way.length=T at *
   cases T with
   | nil=>cases h1
   | inner l r=>cases h3
   | leaf k v =>
    simp only[Tre.ents,List.mem_singleton,Prod.mk.injEq] at h1;rw[← h1.1] at h2;simp[thT] at h2
  refine .of HOK.out (by omega) fun k x=>⟨fun hx=>.inr ⟨fun e=>hno x (by rw[← e];exact hx),hx⟩,fun hx=>?_⟩
  rcases hx with⟨_,h2⟩ | ⟨_,hx⟩
  ·cases h2
  ·exact hx
 | true =>
  have HLO:=hZ (HLK.out rfl);clear HLK
  have h0R:root≠0:=fun e=>by
   have h1:=HT.out;rw[e] at h1;have h2:=h1.zero;have h3:=HTH.out;rw[h2] at h3
   have h4:∀ n,subF key 0 .nil n=.nil:=fun n=>by
    induction n with
    | zero=>rfl
    | succ n ih=>rw[xdb,ih];rfl
   rw[h4] at h3;cases h3
  go_upto_region 9 with fail;refine rB (Loc.P HL) [] [] [0,1,2,3,4,5] 0 ?_;refine X3a ?_;intro HL;refine xab rfl rfl HL (fun W hW=>xaf xsm _ rfl _ rfl) ?_;refine X6 ?_;refine xab rfl rfl HL (fun W hW=>xa8 sc3 hW _ rfl _ rfl _ hO10 hc2) ?_;refine X6 ?_;refine xab rfl rfl HL (fun W hW=>xaf xsn _ rfl _ rfl) ?_;refine X6 ?_;refine xab rfl rfl HL (fun W hW=>xa8 sc3 hW _ rfl _ rfl _ hO10 hc3) ?_;refine X6 ?_;refine X4q ?_;have HIN2:=hZ (HIN.out.below (Below.refl _ _).drew);clear HL HIN;obtain⟨w,hwe⟩:∃ w,w2.drew=w:=⟨_,rfl⟩;rw[hwe] at HIN2;rw[hwe];clear hwe;have HL:=HIN2.out.st.loc;obtain⟨bo,hbo⟩:∃ bo,(st==0)=bo:=⟨_,rfl⟩;have HBO:=hZ hbo;clear hbo;go_upto_region 10 with fail;refine X12 ?_;refine Xh0 ?_;refine X1z ?_
  have HSTT:Hid (st≠0→∃ d T,IsT σ st d T):=hZ (fun h=>by
   rcases HLO.out with⟨_,T,dd,_,h2,_⟩ | ⟨_,d,_,_,_,h2,_⟩
   ·exact⟨0,T,h2 0⟩
   ·exact⟨_,_,h2⟩)
  go_upto_if 36 with fail
  go_cut [] from 14 (fun wx=>∃ σ1,InS D w2 gs g σ (rt1 st (rt1 root R)) σ.used σ1 wx)
  case first=>as_aux_lemma =>
   cases bo with
   | true =>
    go_wp2_with fail;go_meet
    case rel=>exact⟨σ,by unfold rt1;rw[if_pos (by simpa using HBO.out)];exact HIN2.out⟩
   | false =>
    have h0:st≠0:=by simpa using HBO.out
    obtain⟨ds,Ts,hTs⟩:=HSTT.out h0;obtain⟨σ8,CH,hI8,hY8,hr8,hu8⟩:=xgk HIN2.out.inv st h0 ds Ts hTs (by have:=HRL.out.1;omega);have HCH:=hZ CH;clear CH hTs;go_upto_region 11 with fail;refine X2j ?_;intro K hK;refine X9r ?_;(with_reducible refine(HIN2.out.st.goes' (fun D w vs vf h↦HCH.out D w gs g vs vf h)).mono ?_);rintro e w ⟨rfl,hs⟩;refine X20 ?_;clear hK K;go_wp2_with fail;go_meet
    case rel=>exact⟨σ8,by unfold rt1;rw[if_neg h0];exact HIN2.out.next hs hI8 hY8 hr8 (by rw[hu8];exact HIN2.out.used)⟩
  case rest=>as_aux_lemma =>
   clear HL HIN2 HSTT HBO;obtain⟨σ1,hin1⟩:=hcut;obtain⟨w,rfl⟩:=eW wc;have HI1:=hZ hin1;clear hin1;have HL:=HI1.out.st.loc;go_upto_region 12 with fail;refine Xt ?_;refine xaa rfl _ (xaf xso _ rfl _ rfl) ?_;refine X6 ?_;refine xaa rfl _ (xa8 sc4 HL _ rfl _ rfl _ hO10 hc4) ?_;refine X1z ?_
   go_upto_if 41 with fail
   go_cut [11,12] from 14 (fun v d wx=>DeL D w2 gs g σ (rt1 root R) key told way.length v d wx)
   case first=>as_aux_lemma =>
    cases an with
    | false =>
     go_wp2_with fail;go_meet
     case rel =>
      rcases HLO.out with⟨_,T,dd,t1,t2,t3,t4,t5,t6⟩ | ⟨h,_⟩
      ·refine⟨T,st,σ1,dd,rfl,by rw[t4],t3,⟨HI1.out.st,HI1.out.inv,HI1.out.stay,HI1.out.room,by have:=HI1.out.used;omega⟩,(t2 dd).stay HI1.out.stay,t5,fun hd=>?_⟩
       obtain⟨u1,u2⟩:=t6 hd;exact⟨fun e=>u1 (by have:=t2 0;rw[e] at this;exact this.zero),fun e=>u1 (xcf t5.ok e),.inr u2⟩
      ·cases h
    | true =>
     obtain⟨d,hdm,hfr,hin,hTd,hsp⟩:∃ d:Nat,d<way.length∧fr=(d:Int)∧(sdY key d (subF key 0 told d)).isIn=true∧IsT σ st (d+1) (sdY key d (subF key 0 told d))∧SpK (d+1) (subF key 0 told (d+1)) key none .nil:=by
      rcases HLO.out with⟨h,_⟩ | ⟨_,h⟩
      ·cases h
      ·exact h
     subst hfr;have hsd:=HSO.out d (by omega);have hsi:=(HW.out.sub d hdm).1;obtain⟨s1,s2,s3,s4,s5,s6,s7⟩:=xn8 hsd.1 hsd.2.1 hsi;rw[xdb,Nat.zero_add] at hsp;have hup:=xn9 hsd.1 hsd.2.1 hsi hsp;have hky:=Tre.Ok.ne s3 hin;rw[jn_nil hin hky] at hup;have HUP:=hZ hup
     have hst0:st≠0:=fun e=>by
      rw[e] at hTd;have:=hTd.zero;rw[this] at hin;cases hin
     have HSZ:Hid ((sdY key d (subF key 0 told d)).size≤400000):=hZ (by have:=HTS.out;have:=hsd.2.2;omega)
     obtain⟨z9,σ9,CJ,hz9,hI9,hY9,hT9,hr9,hu9⟩:=xta (gs:=gs) (g:=g) (R':=rt1 root R) HI1.out.inv d s4 key 0 st .nil _ rfl (hTd.stay HI1.out.stay) HUP.out.ok (fun y=>by
      unfold rt1;rw[if_neg hst0,List.count_cons,xef _ _ hst0];simp) (by have:=HRL.out.1;have:=xd5 st (rt1 root R);omega) (by have:=HF.out;have:=HI1.out.used;have:=HI1.out.room;omega) (by have:=HSZ.out;simp only[Tre.size];omega)
     have HCJ:=hZ CJ;have HD256:=hZ s4;have HDM:=hZ hdm;clear CJ hsd hsi s1 s2 s3 s4 s5 s6 s7 hup hsp hky hTd hdm;go_upto_region 13 with fail;refine Xhn ?_;refine X42 ?_;intro K hK;refine xad cf234 rfl _ rfl ?_;refine X1w ?_;(with_reducible refine(HI1.out.st.goes' (fun D w vs vf h↦HCJ.out D w vs vf h)).mono ?_);rintro e w ⟨rfl,hs⟩;have HI9:Hid (InS D w2 gs g σ (z9::rt1 root R) (σ.used+1+(256 - d)) σ9 w):=hZ (HI1.out.next hs hI9 hY9 hr9 (by have:=HI1.out.used;have:=HD256.out;omega));have HT9:=hZ hT9;have HZ9:=hZ hz9;clear HL hs hI9 hY9 hr9 hu9 hT9 hz9;have HL:=HI9.out.st.loc;refine X2m ?_;clear hK K;go_upto_region 14 with fail;refine X12 ?_;refine xaa rfl _ (xa2 _ _ rfl _ _ _ rfl rfl rfl (by have:=HD256.out;omega)) ?_;refine X1a ?_;go_wp2_with fail;go_meet
     case rel=>exact⟨_,z9,σ9,d,rfl,rfl,Nat.le_of_lt HDM.out,by unfold rt1;rw[if_neg HZ9.out];exact HI9.out,HT9.out,HUP.out,fun _=>⟨HZ9.out,by have h8:(jnK key d .nil (sdY key d (subF key 0 told d))).isIn=true:=(by unfold jnK;split<;>rfl);exact Tre.Ok.ne HUP.out.ok h8,.inl (by unfold jnK;split<;>rfl)⟩⟩
   case rest=>as_aux_lemma =>
    clear HL HI1;obtain⟨T0,z0,σ2,dd0,rfl,rfl,hd0,hin0,htT0,hsp0,hq0⟩:=hcut;obtain⟨w,rfl⟩:=eW wc;have HL:=hin0.st.loc;go_wp2_with fail
    go_loopw [11,12,13] (fun v d _ wr=>DeL D w2 gs g σ (rt1 root R) key told way.length v d wr) (fun _ d _ _=>(intOf d+1).toNat)
    case atStart=>exact⟨T0,z0,σ2,dd0,rfl,rfl,hd0,hin0,htT0,hsp0,hq0⟩
    case round=>as_aux_lemma =>
     clear HL hin0 htT0 hsp0 hq0 hd0;obtain⟨T,z,σ5,dd,rfl,hdv,hd1,hin,htT,hsp,hq⟩:=hrel;obtain⟨w,rfl⟩:=eW wr;have HI5:=hZ hin;have HT5:=hZ htT;have HSP:=hZ hsp;clear hin htT hsp;have HL:=HI5.out.st.loc;by_cases hlt:0<dd
     ·obtain⟨d,rfl⟩:∃ d,dd=d+1:=⟨dd - 1,by omega⟩
      obtain⟨hz,hky,hTi⟩:=hq hlt;rw[Nat.add_sub_cancel] at hTi;have HZ:=hZ hz;have k15:decide ((0:Int)≤(d:Int))=true:=by simp
      rw[show((d+1:Nat):Int) - 1=(d:Int) by omega] at hdv;subst hdv;obtain⟨zw,n5,v5,hat5,hG5,hX5,hX0⟩:=xrj HW.out HI5.out.stay d hd1;have hsd:=HSO.out d (by omega);refine Xgy ?_;intro hsi s1 s2 s3 s4 s5 s6 s7;have HD256:=hZ s4;have hsp2:=HSP.out;rw[xdb,Nat.zero_add] at hsp2;have hup:=xn9 hsd.1 hsd.2.1 hsi hsp2;have hjn:=xpy (key:=key) (d:=d) (other:=sdY key d (subF key 0 told d)) hky (hTi.imp id (fun h e=>h (xcf s3 e)));rw[hjn] at hup;have HUP:=hZ hup;have HSZ:Hid (T.size+(sdY key d (subF key 0 told d)).size≤1000000):=hZ (by have q:=hsp2.sz;have:=HTS.out;have h8:=hsd.2.2;rw[List.length_singleton] at q;omega);generalize sdY key d (subF key 0 told d)=To at *;obtain⟨zo,hzo⟩:∃ zo,sdX key d n5=zo:=⟨_,rfl⟩
      have HCA:∀ (D1:Nat→Prop) u,StW D1 u gs σ5→Hid (Calls prog 235 #[pG gs,iV zw,iV d,key.a] u (oB u (iV zo))):=fun D1 u hu=>hZ (by rw[← hzo];exact xp1 hu zw n5 v5 hG5 d s4 key)
      rw[hzo] at hX5 hX0;have HX5:=hZ hX5;refine Xgz ?_;intro HAT;obtain⟨ad,hA5,_⟩:=HWR.out (by rw[xqx];omega);have HSV:Hid (v.v=.slice (some ad) way.length v.c):=hZ (by obtain⟨vA,vn,vc⟩:=v;have h1:=HVN.out;simp only at hA5 h1;rw[Sv.v,hA5,h1]);have HRD:∀ wx,Loc w2 (fun k=>Old w2 k∧¬ D k) [] wx→Hid (Rd wx (some ad) (iZ way)):=fun wx hx=>hZ (by have:=(HRDW wx hx).out;rw[hA5] at this;exact this)
      have HDL:Hid (d<way.length):=hZ hd1;clear hG5 hX5 hX0 hsd hsi s1 s2 s3 s4 s5 s6 s7 hsp2 hTi hup hjn hzo hA5 hat5 hq hz hky;go_upto_region 15 with fail;refine X12 ?_;refine xaa rfl _ (xce (b:=true) _ _ rfl _ _ rfl rfl k15) ?_;refine X1z ?_;go_upto_region 17 with fail;refine rB (Loc.P HL) [] [8] [0,1,2,3,4,5,6,7,8,9] 0 ?_;refine X3c ?_;intro HL;refine xab rfl rfl HL (fun W hW=>xaf fa343_0 _ rfl _ rfl) ?_;refine X6 ?_;refine xab rfl rfl HL (fun W hW=>xa8 sc71 hW _ rfl _ rfl _ hO10 hc0) ?_;refine X3g ?_;refine xab rfl rfl HL (fun W hW=>xaz sl71 (.tmp 55) _ rfl ad way.length v.c d .i64 HSV.out rfl HDL.out) ?_;refine X6 ?_;refine xab rfl rfl HL (fun W hW=>xdh sc3 _ rfl ad (d*1) _ _ rfl (HRD _ hW).out HAT.out) ?_;refine X3g ?_;refine Xh5 ?_;refine Xh ?_;intro K hK
      refine xad cf235 rfl _ rfl ?_;refine X1w ?_;(with_reducible refine((HI5.out.st.below (Below.refl _ _).drew).q (fun D1 h↦(HCA D1 _ h).out)).mono ?_);rintro e w ⟨rfl,hb⟩;have HI6:=hZ ((HI5.out.below (Below.refl _ _).drew).below hb);clear HL hb;have HL:=HI6.out.st.loc;refine X5v ?_;clear hK K;refine X4p ?_;obtain⟨bo,hbo⟩:∃ bo,(zo==0)=bo:=⟨_,rfl⟩;have HBO:=hZ hbo;clear hbo;go_upto_region 18 with fail;refine X12 ?_;refine Xh0 ?_;refine X1z ?_
      go_upto_if 63 with fail
      go_cut [] from 49 to 72 (fun wx=>∃ σ8,InS D w2 gs g σ (rt1 zo (z::rt1 root R)) (σ.used+1+(256 - (d+1))) σ8 wx∧IsT σ8 z (d+1) T∧IsT σ8 zo (d+1) To)
      case first =>
       have hin6:InS D w2 gs g σ (z::rt1 root R) (σ.used+1+(256 - (d+1))) σ5 w:=by
        have h6:=HI6.out;unfold rt1 at h6;rw[if_neg HZ.out] at h6;exact h6
       cases bo with
       | true =>
        go_wp2_with fail;go_meet
        case rel=>exact⟨σ5,by unfold rt1;rw[if_pos (by simpa using HBO.out)];exact hin6,HT5.out,HX5.out⟩
       | false =>
        have h0:zo≠0:=by simpa using HBO.out
        have HN6:=hZ hin6;clear hin6;obtain⟨σ8,CH,hI8,hY8,hr8,hu8⟩:=xgk HN6.out.inv zo h0 _ _ HX5.out (by have:=HRL.out.1;simp only[qr];omega);have HCH:=hZ CH;clear CH;go_upto_region 19 with fail;refine X2j ?_;intro K hK;refine X9r ?_;(with_reducible refine(HN6.out.st.goes' (fun D w vs vf h↦HCH.out D w gs g vs vf h)).mono ?_);rintro e w ⟨rfl,hs⟩;refine X20 ?_;clear hK K;go_wp2_with fail;go_meet
        case rel=>exact⟨σ8,by unfold rt1;rw[if_neg h0];exact HN6.out.next hs hI8 hY8 hr8 (by rw[hu8];exact HN6.out.used),HT5.out.stay hY8,HX5.out.stay hY8⟩
      case rest =>
       clear HL HI6 HI5 HX5 HT5;obtain⟨σ8,hin8,ht8,hx8⟩:=hcut;obtain⟨w,rfl⟩:=eW wc;have HI8:=hZ hin8;clear hin8;have HL:=HI8.out.st.loc
       obtain⟨z9,σ9,CJ,hz9,hI9,hY9,hT9,hr9,hu9⟩:=xta (gs:=gs) (g:=g) (R':=rt1 root R) HI8.out.inv d HD256.out key z zo _ _ ht8 hx8 HUP.out.ok (fun y=>by
        by_cases h0:zo=0
        ·subst h0;unfold rt1;rw[if_pos rfl,List.count_cons,xef _ _ HZ.out];simp
        ·unfold rt1;rw[if_neg h0,List.count_cons,List.count_cons,xef _ _ HZ.out,xef _ _ h0]<;>omega) (by have:=HRL.out.1;have:=xd5 zo (z::rt1 root R);simp only[qr] at this;omega) (by have:=HF.out;have:=HI8.out.used;have:=HI8.out.room;omega) HSZ.out
       have HCJ:=hZ CJ;clear CJ ht8 hx8;go_upto_region 20 with fail;refine Xhn ?_;refine Xee ?_;intro K hK;refine xad cf234 rfl _ rfl ?_;refine X1w ?_;(with_reducible refine(HI8.out.st.goes' (fun D w vs vf h↦HCJ.out D w vs vf h)).mono ?_);rintro e w ⟨rfl,hs⟩;have HI9:Hid (InS D w2 gs g σ (z9::rt1 root R) (σ.used+1+(256 - d)) σ9 w):=hZ (HI8.out.next hs hI9 hY9 hr9 (by have:=HI8.out.used;have:=HD256.out;omega));have HT9:=hZ hT9;have HZ9:=hZ hz9;clear HL hs hI9 hY9 hr9 hu9 hT9 hz9;have HL:=HI9.out.st.loc;refine X2m ?_;clear hK K;go_upto_region 16 with fail;refine X12 ?_;refine xaa rfl _ (xa2 _ _ rfl _ _ _ rfl rfl rfl (by have:=HML.out;have:=HDL.out;omega)) ?_;refine X1a ?_;go_wp2_with fail;go_roundw
       case rel=>exact⟨_,z9,σ9,d,rfl,rfl,by omega,by unfold rt1;rw[if_neg HZ9.out];exact HI9.out,HT9.out,HUP.out,fun _=>⟨HZ9.out,by have h8:(jnK key d T To).isIn=true:=(by unfold jnK;split<;>rfl);exact Tre.Ok.ne HUP.out.ok h8,.inl (by unfold jnK;split<;>rfl)⟩⟩
       case measure=>simp[intOf]<;>omega
     ·have hdd:dd=0:=by omega
      subst hdd;subst hdv;have k15:decide ((0:Int)≤((0:Nat):Int) - 1)=false:=by decide
      go_upto_region 15 with fail;refine X12 ?_;refine xaa rfl _ (xce (b:=false) _ _ rfl _ _ rfl rfl k15) ?_;refine X1z ?_;have HRT0:Hid (rt1 root R=root::R):=hZ (by unfold rt1;rw[if_neg h0R]);have hI0:=HI.out;rw[HRT0.out] at hI0
      have hin5:InS D w2 gs g σ (rt1 z (root::R)) (σ.used+257) σ5 w:=by
       have h5:=HI5.out;rw[HRT0.out] at h5;exact⟨h5.st,h5.inv,h5.stay,h5.room,by have:=h5.used;omega⟩
      have HDR:=hZ (xk6 hin5 hI0 h0R HT5.out HRL.out.2);clear hin5 hI0;go_upto_region 21 with fail;refine X9u ?_;intro K hK;(with_reducible refine(HDR.out).mono ?_);rintro e w ⟨m9,σ9,rfl,hs9,hI9,hK9,hT9,hr9,hu9⟩;have HS9:=hZ hs9;have HQ9:=hZ (And.intro hI9 (And.intro hK9 (And.intro hT9 (And.intro hr9 hu9))));clear HL hs9 hI9 hK9 hT9 hr9 hu9;have HL:=HS9.out.loc;refine X20 ?_;clear hK K;go_upto_region 22 with fail;refine X12 ?_;refine X7s ?_;go_wp2_with fail
      go_ret3
      obtain⟨D9,vs9,vf9,hP9,hS9⟩:=HS9.out;obtain⟨hI9,hK9,hT9,hr9,hu9⟩:=HQ9.out;exact⟨true,T,z,D9,vs9,vf9,σ9,rfl,hP9,HS0.out.trans hS9,hI9,hK9,hT9,hr9,hu9,HSP.out⟩
end
def DctO(D:Nat→Prop)(w:World)(gd gs g gv gm:Nat)(σ:Sb)(vl:List (LU×Int))(R:List Int)(told:Tre)(key:D32)(o:Option LU)(e:Ending)(w':World):Prop :=
 ∃ (r:Value)(t:Tre)(z:Int)(D':Nat→Prop)(vs' vf':Sv)(σ':Sb),e=.returned r∧(match o with | none=>True | some _=>r=iV 0)∧DcV D' w' gd gs g gv gm σ' vs' vf' vl z∧Stp (dA D gd gv gm) w (dA D' gd gv gm) w'∧σ'.Inv (rt1 z R) []∧σ.Keeps R σ'∧IsT σ' z 0 t∧σ'.room=σ.room∧σ'.used≤σ.used+257∧SpK 0 told key o t
section
variable {D:Nat→Prop}{w w':World}{gd gs g gv gm:Nat}{σ:Sb}{vs vf:Sv}{vl:List (LU×Int)}{root:Int}
theorem xu7{nm:Value}(h:DcP D w gd gs g σ vs vf nm root)(A:Option Addr)(n c:Nat)(l:LU)(hr:Rd w A (bvs l))(hl:l.length=n)(hn:n≤140737488351232)(hc:n≤c)(hb : ¬ l.length=32) :
  Calls prog 89 #[pG gd,.slice A n c] w (oB w (.tuple #[(⟨keyZ,xa7⟩:D32).a,iV 3])):=by
 have HH:=hZ h;have HR:=hZ hr;clear h hr;obtain⟨w0,rfl,HL⟩:=lS w;go_enter func89,ntmps89;go_upto_region 0 with fail;refine Xt ?_;refine xah zr24 rfl rfl HL ?_;clear HL;intro g4 w HL;refine X1a ?_;go_upto_region 1 with fail;refine Xey ?_;intro K hK;refine X1w ?_;refine Xez ?_;rintro e w ⟨rfl,rfl⟩;refine X20 ?_;clear hK K;go_upto_region 3 with fail;refine X1v ?_;intro K hK;refine Xf0 ?_;refine X1w ?_;(with_reducible refine(of_bad A n c l _ (HL.rdO HR.out) hl hn hc hb).mono ?_);rintro e w ⟨rfl,hb2⟩;replace HL:=HL.next hb2;clear hb2;refine X5k ?_;clear hK K;refine X48 ?_;refine X6v ?_;refine X4c ?_;clear HL;intro w HL;go_wp2_with fail;refine Xf1 ?_;exact⟨rfl,HL.below⟩
theorem put_long(h:StW D w gs σ)(hr1:1≤σ.room)(root:Int)(key:D32)(A:Option Addr)(n c:Nat)(hl:1024<n) :
  Calls prog 90 #[pG gs,iV root,key.a,.slice A n c] w (oB w (.tuple #[iV 0,iV 4])):=by
 have HH:=hZ h;have kroom:((σ.room:Int)==0)=false:=by simp;omega
 have klen:decide ((1024:Int)<(n:Int))=true:=by simp;omega
 clear h hl hr1;obtain⟨w0,rfl,HL⟩:=lS w;go_enter func90,ntmps90;go_upto_region 0 with fail;refine Xt ?_;refine X85 ?_;clear HL;intro g6 w HL;refine X1g ?_;go_upto_region 1 with fail;refine X80 ?_;intro K hK;refine X9v ?_;rintro e w ⟨rfl,rfl⟩;refine X5k ?_;clear hK K;refine X9e ?_;refine X1z ?_;go_upto_region 3 with fail;refine X12 ?_;refine X5m ?_;refine X6 ?_;refine xaa rfl _ (xbq (b:=true) _ _ rfl _ _ rfl rfl klen) ?_;refine X1z ?_;go_upto_region 4 with fail;refine X2y ?_;go_wp2_with fail;go_ret2;exact⟨rfl,HL.below⟩
theorem dcv_put(h:DcV D w gd gs g gv gm σ vs vf vl root)(R:List Int)(told:Tre)(hR:R.length≤400000000)(hts:told.size≤400000)(hI:σ.Inv (rt1 root R) [])(ht:IsT σ root 0 told)(hok:told.Ok 0)(hfit:σ.used+258≤σ.room)(A:Option Addr)(c:Nat)(key:D32)(hr:Rd w A (bvs key.l))(hc:32≤c)(B:Option Addr)(m d:Nat)(cv:LU)(hv:Rd w B (bvs cv))(hn:cv.length=m∧m≤d∧d≤maxLen∧m≤1024) :
  Calls prog 34 #[pG gd,.slice A 32 c,.slice B m d] w (fun e w'=>DctO D w gd gs g gv gm σ vl R told key (some cv) e w'):=by
 have HH:=hZ h;have HR:=hZ hr;have CP:∀ u,Bw w u→Hid (Calls prog 90 #[pG gs,iV root,key.a,.slice B m d] u (WrO D u gs g σ R told key (some cv) mkP)):=fun u hu=>hZ (put_any (h.st.below hu) R root told hI ht hok key B m d cv (hv.below hu) hn hR hts hfit)
 have hc1:=h.c1;have hc2:=h.c2;clear h hr hI ht hok hR hts hfit hv hn;obtain⟨w0,rfl,HL⟩:=lS w;go_enter func34,ntmps34;go_upto_region 0 with fail;refine X1j ?_;go_upto_region 1 with fail;refine Xf9 ?_;intro K hK;refine X1w ?_;refine Xho ?_;rintro e w ⟨rfl,hb9⟩;replace HL:=HL.next hb9;clear hb9;refine X54 ?_;clear hK K;refine Xfc ?_;clear HL;intro g7 w HL;go_upto_region 2 with fail;refine X2n ?_;refine Xhp ?_;intro hgd HB;refine Xfd ?_;intro HA;refine X9l ?_;intro HX;clear HL;have HL:=HX;clear HX;go_upto_region 4 with fail;refine Xfe ?_;refine Xfh ?_;intro HL;refine X6 ?_;refine X73 ?_;refine X3g ?_;refine Xg ?_;intro K hK;refine xad cf90 rfl _ rfl ?_;refine Xhq ?_;rintro e w ⟨t,z,D2,vs2,vf2,σ2,rfl,hP2,hS2,hI2,hK2,hT2,hr2,hu2,hsp2⟩;replace HL:=HL.frame hS2.fr (fun k hk hd=>hd.2 hk) HA.2
 have HD2:=hZ ((HH.out.below HB.out).turned hS2 hP2);refine Xhr ?_;intro HS2 HQ;clear hP2 hS2 hI2 hK2 hT2 hr2 hu2 hsp2;refine X7e ?_;clear hK K;clear HL HA;go_upto_region 5 with fail;refine Xfm ?_;refine X1z ?_;have HL:=(Loc.start w).adopt (fun k=>k=gd) [(gd,166,[pG gv,pG gs,iV root])] (by simp;exact HD2.out.blk) (by simp);simp only[qn] at HL;obtain⟨w2,rfl⟩:=eW w;go_upto_region 6 with fail;refine X30 ?_;refine Xf3 ?_;refine Xfi ?_;refine X34 ?_;clear HL;intro w HL;go_upto_region 7 with fail;refine X7v ?_;go_wp2_with fail;go_ret;have hf:=HL.frS;exact⟨.int .i64 0,t,z,D2,vs2,vf2,σ2,rfl,rfl,HD2.out.rooted z (HL.blk (.head _)) hf,HS2.out.trans (xh1 hf),HQ.out⟩
theorem xob(h:DcV D w gd gs g gv gm σ vs vf vl root)(hr1:1≤σ.room)(A:Option Addr)(c:Nat)(key:D32)(hr:Rd w A (bvs key.l))(hc:32≤c)(B:Option Addr)(m d:Nat)(hl:1024<m) :
  Calls prog 34 #[pG gd,.slice A 32 c,.slice B m d] w (oB w (iV 4)):=by
 have HH:=hZ h;have HR:=hZ hr;have CP:∀ u,Bw w u→Hid (Calls prog 90 #[pG gs,iV root,key.a,.slice B m d] u (oB u (.tuple #[iV 0,iV 4]))):=fun u hu=>hZ (put_long (h.st.below hu).sw hr1 root key B m d hl)
 have hc1:=h.c1;have hc2:=h.c2;clear h hr hl hr1;obtain⟨w0,rfl,HL⟩:=lS w;go_enter func34,ntmps34;go_upto_region 0 with fail;refine X1j ?_;go_upto_region 1 with fail;refine Xf9 ?_;intro K hK;refine X1w ?_;refine Xho ?_;rintro e w ⟨rfl,hb9⟩;replace HL:=HL.next hb9;clear hb9;refine X54 ?_;clear hK K;refine Xfc ?_;clear HL;intro g7 w HL;go_upto_region 2 with fail;refine X2n ?_;refine Xhp ?_;intro hgd HB;refine Xfd ?_;intro HA;refine X9l ?_;intro HX;clear HL;have HL:=HX;clear HX;go_upto_region 4 with fail;refine Xfe ?_;refine Xfh ?_;intro HL;refine X6 ?_;refine X73 ?_;refine X3g ?_;refine Xg ?_;intro K hK;refine xad cf90 rfl _ rfl ?_;refine Xhq ?_;rintro e w ⟨rfl,hb9⟩;replace HL:=HL.next hb9;have HB9:=hZ (HB.out.trans (hb9.mono HB.out.size));clear hb9;refine X7e ?_;clear hK K;go_upto_region 5 with fail;refine X12 ?_
 refine Xfk ?_;refine X1z ?_;have HL2:=(Loc.start w);clear HL;have HL:=HL2;clear HL2;obtain⟨w2,rfl⟩:=eW w;go_upto_region 7 with fail;refine X7v ?_;go_wp2_with fail;go_ret;exact⟨rfl,HB9.out⟩
theorem xp2(h:DcV D w gd gs g gv gm σ vs vf vl root)(A:Option Addr)(n c:Nat)(l:LU)(hr:Rd w A (bvs l))(hl:l.length=n)(hn:n≤140737488351232)(hc:n≤c)(hb : ¬ l.length=32)(B:Option Addr)(m d:Nat) :
  Calls prog 34 #[pG gd,.slice A n c,.slice B m d] w (oB w (iV 3)):=by
 have HH:=hZ h;have HR:=hZ hr;clear h hr;obtain⟨w0,rfl,HL⟩:=lS w;go_enter func34,ntmps34;go_upto_region 0 with fail;refine X1j ?_;go_upto_region 1 with fail;refine Xf9 ?_;intro K hK;refine X1w ?_;refine Xhs ?_;rintro e w ⟨rfl,hb9⟩;replace HL:=HL.next hb9;clear hb9;refine X54 ?_;clear hK K;refine Xfc ?_;clear HL;intro g7 w HL;go_upto_region 2 with fail;refine Xex ?_;go_upto_region 3 with fail;refine X7v ?_;go_wp2_with fail;go_ret;exact⟨rfl,HL.below⟩
theorem dcv_del(h:DcV D w gd gs g gv gm σ vs vf vl root)(R:List Int)(told:Tre)(hR:R.length≤400000000)(hts:told.size≤400000)(hI:σ.Inv (rt1 root R) [])(ht:IsT σ root 0 told)(hok:told.Ok 0)(hfit:σ.used+258≤σ.room)(A:Option Addr)(c:Nat)(key:D32)(hr:Rd w A (bvs key.l))(hc:32≤c) :
  Calls prog 131 #[pG gd,.slice A 32 c] w (fun e w'=>DctO D w gd gs g gv gm σ vl R told key none e w'):=by
 have HH:=hZ h;have HR:=hZ hr;have CP:∀ u,Bw w u→Hid (Calls prog 191 #[pG gs,iV root,key.a] u (DeO D u gs g σ R told key)):=fun u hu=>hZ (del_any (h.st.below hu) R root told hI ht hok key hR hts hfit)
 have hc1:=h.c1;have hc2:=h.c2;clear h hr hI ht hok hR hts hfit;obtain⟨w0,rfl,HL⟩:=lS w;go_enter func131,ntmps131;go_upto_region 0 with fail;refine X2y ?_;go_upto_region 1 with fail;refine Xf9 ?_;intro K hK;refine X1w ?_;refine Xho ?_;rintro e w ⟨rfl,hb9⟩;replace HL:=HL.next hb9;clear hb9;refine X54 ?_;clear hK K;refine xah zr24 rfl rfl HL ?_;clear HL;intro g6 w HL;refine Xfb ?_;clear HL;intro w HL;go_upto_region 2 with fail;refine X2n ?_;refine Xhp ?_;intro hgd HB;have HA:(∀ k,D k→¬ (Old w0 k∧¬ D k))∧∀ y∈[(g6,24,key.c)],¬ D y.1:=⟨fun k hk hd=>hd.2 hk,fun y hy hk=>(HL.own y hy).1 (HH.out.st.sb.lt _ hk)⟩;refine X9l ?_;intro HX;clear HL;have HL:=HX;clear HX;go_upto_region 4 with fail;refine rB (Loc.P HL) [] [9] [0,1,2,3,4,5,6,7,8,9,10,11,12,13,14,15,16] 0 ?_;refine Xfh ?_;intro HL;refine X6 ?_
 refine X73 ?_;refine Xh ?_;intro K hK;refine xad cf191 rfl _ rfl ?_;refine Xhq ?_;rintro e w ⟨th,t,z,D2,vs2,vf2,σ2,rfl,hP2,hS2,hI2,hK2,hT2,hr2,hu2,hsp2⟩;replace HL:=HL.frame hS2.fr (fun k hk hd=>hd.2 hk) HA.2;have HD2:=hZ ((HH.out.below HB.out).turned hS2 hP2);refine Xhr ?_;intro HS2 HQ;clear hP2 hS2 hI2 hK2 hT2 hr2 hu2 hsp2;refine X7d ?_;clear hK K;refine X60 ?_;refine X5z ?_;refine X4o ?_;refine X4q ?_;clear HL HA;go_upto_region 5 with fail;refine Xfm ?_;refine X1z ?_;have HL:=(Loc.start w).adopt (fun k=>k=gd) [(gd,166,[pG gv,pG gs,iV root])] (by simp;exact HD2.out.blk) (by simp);simp only[qn] at HL;obtain⟨w2,rfl⟩:=eW w;go_upto_region 6 with fail;refine X30 ?_;refine Xf3 ?_;refine Xfi ?_;refine X34 ?_;clear HL;intro w HL;go_upto_region 7 with fail;refine X7r ?_;go_wp2_with fail;go_ret2;have hf:=HL.frS
 exact⟨.tuple #[.bool th,iV 0],t,z,D2,vs2,vf2,σ2,rfl,trivial,HD2.out.rooted z (HL.blk (.head _)) hf,HS2.out.trans (xh1 hf),HQ.out⟩
theorem xp3(h:DcV D w gd gs g gv gm σ vs vf vl root)(A:Option Addr)(n c:Nat)(l:LU)(hr:Rd w A (bvs l))(hl:l.length=n)(hn:n≤140737488351232)(hc:n≤c)(hb : ¬ l.length=32) :
  Calls prog 131 #[pG gd,.slice A n c] w (oB w (.tuple #[.bool false,iV 3])):=by
 have HH:=hZ h;have HR:=hZ hr;clear h hr;obtain⟨w0,rfl,HL⟩:=lS w;go_enter func131,ntmps131;go_upto_region 0 with fail;refine X2y ?_;go_upto_region 1 with fail;refine Xf9 ?_;intro K hK;refine X1w ?_;refine Xhs ?_;rintro e w ⟨rfl,hb9⟩;replace HL:=HL.next hb9;clear hb9;refine X54 ?_;clear hK K;refine xah zr24 rfl rfl HL ?_;clear HL;intro g6 w HL;refine Xfb ?_;clear HL;intro w HL;go_upto_region 2 with fail;refine Xex ?_;go_upto_region 3 with fail;refine X3s ?_;go_wp2_with fail;go_ret2;exact⟨rfl,HL.below⟩
end
end Go.Proofs.YtkjjdgnkelchfaaGreat
