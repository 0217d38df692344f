import Derived.Test.YtkjjdgnkelchfaaGreatPNU24
set_option linter.unusedSimpArgs false
set_option linter.unusedVariables false
set_option maxRecDepth 100000
set_option maxHeartbeats 16000000
namespace Go.Proofs.YtkjjdgnkelchfaaGreat
open Go Go.RowKit Go.Proofs.Tryz
theorem tw_lt{α:Type}(p:α→Bool):∀ (l:List α)(j:Nat)(h:j<l.length),j<(l.takeWhile p).length→p l[j]=true
 | [],j,h,_=>by simp at h
 | x::l,j,h,h2=>by
  rw[List.takeWhile_cons] at h2
  cases hp:p x with
  | false=>rw[hp] at h2;simp at h2
  | true =>
   rw[hp] at h2
   cases j with
   | zero=>exact hp
   | succ j=>exact tw_lt p l j (by simpa using h) (by simpa using h2)
theorem tw_at{α:Type}(p:α→Bool):∀ (l:List α)(i:Nat),(l.takeWhile p).length=i→∀ h:i<l.length,p l[i]=false
 | [],i,_,h=>by simp at h
 | x::l,i,hi,h=>by
  rw[List.takeWhile_cons] at hi
  cases hp:p x with
  | false=>rw[hp] at hi;simp at hi;subst hi;exact hp
  | true =>
   rw[hp] at hi
   cases i with
   | zero=>simp at hi
   | succ i=>exact tw_at p l i (by simpa using hi) (by simpa using h)
theorem KyS.to_{w:World}{A:Option Addr}{n c:Nat}{ks:List D32}(h:KyS w A n c ks)(i:Nat)(hi:i≤n):KyS w A i c (ks.take i):=by
 have h1:=h.cut 0 i (Nat.zero_le _) hi
 have e0:cutA A c 0 32=A:=by
  unfold cutA
  split
  ·rfl
  ·cases A with
   | none=>rfl
   | some ad=>simp[Addr.add_zero']
 rw[List.drop_zero,Nat.sub_zero,Nat.sub_zero,e0] at h1;exact h1
theorem KyS.from_{w:World}{A:Option Addr}{n c:Nat}{ks:List D32}(h:KyS w A n c ks)(i:Nat)(hi:i≤n):KyS w (cutA A c i 32) (n - i) (c - i) (ks.drop i):=by
 have h1:=h.cut i n hi (Nat.le_refl _);rw[List.take_of_length_le (by rw[List.length_drop,h.len];exact Nat.le_refl _)] at h1;exact h1
theorem xoh(ks:List D32):∀ u∈ks.flatMap D32.c,u.oneCell'=true:=fun u hu=>by
 obtain⟨x,_,hx⟩:=List.mem_flatMap.1 hu;exact D32.c1 x u hx
def WhO(w:World)(fs:List Ent)(e:Ending)(w':World):Prop:=∃ (A B:Option Addr)(m c c2:Nat),e=.returned (.tuple #[.slice A m c,.slice B m c2])∧EnS w' A B m c c2 fs∧Bw w w'
theorem who_of{w0 w:World}{G64 G69:BL}{s64 s69:Sv}{fs:List Ent}{n:Nat}(h1:Gw 24 32 G64 s64 n ((fs.map Prod.fst).flatMap D32.c))(h2:Gw 23 32 G69 s69 n ((fs.map fun p=>tagV p.2).flatMap D32.c))(HX:Loc w0 (Old w0) (G69++(G64++[])) w)(hn:0≤n)(hl:fs.length=n):WhO w0 fs (.returned (.tuple #[s64.v,s69.v])) w:=by
 refine⟨s64.A,s69.A,n,s64.c,s69.c,?_,⟨⟨h1.rd (L0:=G69) (L1:=[]) HX,by rw[List.length_map,hl],?_⟩,⟨h2.rd (L0:=[]) (L1:=G64++[]) HX,by rw[List.length_map,hl],?_⟩⟩,HX.below⟩
 ·unfold Sv.v;rw[h1.len,h2.len]
 ·have:=h1.cap.1;rw[h1.len] at this;exact this
 ·have:=h2.cap.1;rw[h2.len] at this;exact this
section
variable {w w':World}
theorem with_any(es:List Ent)(k:D32)(v:LU)(A B:Option Addr)(m c c2:Nat)(hE:EnS w A B m c c2 es)(hm:m≤100000):Calls prog 204 #[.slice A m c,.slice B m c2,.agg (⟨1,k,tagV v,D32.z⟩:Brv).cells.toArray] w (WhO w (putK es k v)):=by
 obtain⟨idx,hidx⟩:∃ i,(es.takeWhile fun p=>decide (nOf p.1.l<nOf k.l)).length=i:=⟨_,rfl⟩;obtain⟨ks,hks⟩:∃ ks,es.map Prod.fst=ks:=⟨_,rfl⟩;obtain⟨hs,hhs⟩:∃ hs,(es.map fun p=>tagV p.2)=hs:=⟨_,rfl⟩;obtain⟨kv,hkv⟩:∃ x,tagV v=x:=⟨_,rfl⟩;have hml:=hE.len;have hkl:ks.length=m:=by rw[← hks,List.length_map,hml]
 have hile:idx≤m:=by rw[← hml,← hidx];exact(List.takeWhile_sublist _).length_le
 have HLT:∀ (j:Nat)(hj:j<ks.length),j<idx→Hid (nOf ks[j].l<nOf k.l):=fun j hj h=>hZ (by
  have:=tw_lt (fun p:Ent=>decide (nOf p.1.l<nOf k.l)) es j (by omega) (by rw[hidx];exact h);subst hks
  simpa using this)
 have HAT:∀ (hj:idx<ks.length),Hid (¬ nOf ks[idx].l<nOf k.l):=fun hj=>hZ (by
  have:=tw_at (fun p:Ent=>decide (nOf p.1.l<nOf k.l)) es idx hidx (by omega);subst hks
  simpa using this)
 have HPY:Hid (ks[idx]? = some k→putK es k v=es):=hZ (fun h=>by unfold putK;rw[hidx,hks,if_pos h]);have HPN:Hid (ks[idx]? ≠ some k→putK es k v=es.take idx++(k,v)::es.drop idx):=hZ (fun h=>by unfold putK;rw[hidx,hks,if_neg h]);have HEE:=hZ hE;have HKS:=hZ hE.k;have HHS:=hZ hE.v;rw[hks] at HKS;rw[hhs] at HHS;have HIC:Hid (idx≤c∧idx≤c2):=hZ ⟨by have:=hE.k.cap;omega,by have:=hE.v.cap;omega⟩;have HIM:Hid (idx≤m):=hZ hile
 have HQ1:Hid (ks[idx]? ≠ some k→[]++(ks.take idx).flatMap D32.c++k.c++(ks.drop idx).flatMap D32.c=((putK es k v).map Prod.fst).flatMap D32.c):=hZ (fun h=>by
  rw[HPN.out h,List.map_append,List.map_cons,List.map_take,List.map_drop,hks];simp)
 have HQ2:Hid (ks[idx]? ≠ some k→[]++(hs.take idx).flatMap D32.c++kv.c++(hs.drop idx).flatMap D32.c=((putK es k v).map fun p=>tagV p.2).flatMap D32.c):=hZ (fun h=>by
  rw[HPN.out h,List.map_append,List.map_cons,List.map_take,List.map_drop,hhs,← hkv];simp)
 have HPL:Hid (ks[idx]? ≠ some k→(putK es k v).length=0+idx+1+(m - idx)):=hZ (fun h=>by
  rw[HPN.out h,List.length_append,List.length_cons,List.length_take,List.length_drop];omega)
 clear HPN;obtain⟨fs,hfs⟩:∃ fs,putK es k v=fs:=⟨_,rfl⟩;rw[hfs] at HPY HQ1 HQ2 HPL ⊢;rw[hkv];have HB:Hid ((((⟨1,k,kv,D32.z⟩:Brv).cells.drop 1).take 32=k.c)∧(((⟨1,k,kv,D32.z⟩:Brv).cells.drop 33).take 32=kv.c)):=hZ ⟨Brv.g_key _,Brv.g_val _⟩;obtain⟨b,hb⟩:∃ b,(⟨1,k,kv,D32.z⟩:Brv).cells=b:=⟨_,rfl⟩;rw[hb] at HB ⊢;have HBL:Hid (b.length=97):=hZ (by rw[← hb];exact Brv.len _);have HTK:=hZ (HKS.out.to_ idx hile);have HTV:=hZ (HHS.out.to_ idx hile);have HDK:=hZ (HKS.out.from_ idx hile);have HDV:=hZ (HHS.out.from_ idx hile);have HTKL:Hid (((ks.take idx).flatMap D32.c).length=idx*32):=hZ (by rw[xaw D32.cl,HTK.out.len]);have HTVL:Hid (((hs.take idx).flatMap D32.c).length=idx*32):=hZ (by rw[xaw D32.cl,HTV.out.len])
 have HDKL:Hid (((ks.drop idx).flatMap D32.c).length=(m - idx)*32):=hZ (by rw[xaw D32.cl,HDK.out.len]);have HDVL:Hid (((hs.drop idx).flatMap D32.c).length=(m - idx)*32):=hZ (by rw[xaw D32.cl,HDV.out.len]);have HTKO:=hZ (xoh (ks.take idx));have HTVO:=hZ (xoh (hs.take idx));have HDKO:=hZ (xoh (ks.drop idx));have HDVO:=hZ (xoh (hs.drop idx));clear hfs hkv hb hE hidx hks hhs hml;obtain⟨w0,rfl,HL⟩:=lS w;go_enter func204,ntmps204;go_upto_region 0 with fail;refine X2s ?_;clear HL;intro g5 w HL;refine X1g ?_;go_upto_region 1 with fail;refine X1j ?_;go_wp2_with fail
 go_loopw [8] (fun z wr=>∃ i:Nat,z=.int .i64 (i:Int)∧i≤idx∧Loc w0 (Old w0) [(g5,124,b)] wr) (fun z _=>(m - intOf z).toNat)
 case atStart=>exact⟨0,rfl,Nat.zero_le _,HL⟩
 case round =>
  clear HL;obtain⟨i,rfl,hii,HL⟩:=hrel;obtain⟨w,rfl⟩:=eW wr;go_upto_region 2 with fail
  go_cut [24] from 11 to 26 (fun z wx=>∃ bb:Bool,z=.bool bb∧(bb=true→i<idx)∧(bb=false→i=idx)∧Loc w0 (Old w0) [(g5,124,b)] wx)
  case first =>
   by_cases h1:i<m
   ·have k3:decide ((i:Int)<(m:Int))=true:=by simp;omega
    have hik:i<ks.length:=by omega
    obtain⟨ad,hA,hrd0⟩:=HKS.out.at_ i hik;have HSV:Hid (Value.slice A m c=.slice (some ad) m c):=hZ (by rw[hA]);have HRD:=hZ hrd0;obtain⟨cz,hcz⟩:∃ cz,cmpZ (nOf ks[i].l) (nOf k.l)=cz:=⟨_,rfl⟩;have CC:∀ u:World,Hid (Calls prog 14 #[.agg ks[i].c.toArray,.agg k.c.toArray] u (oB u (iV cz))):=fun u=>hZ (by rw[← hcz];exact xgq u ks[i] k)
    obtain⟨bb,hbb⟩:∃ bb,decide (cz<0)=bb:=⟨_,rfl⟩
    have HBB:Hid ((bb=true→i<idx)∧(bb=false→i=idx)):=hZ (by
     have hlt:cz<0↔nOf ks[i].l<nOf k.l:=by
      rw[← hcz];unfold cmpZ;split
      ·simp;assumption
      ·split
       ·next h=>simp;omega
       ·simp;omega
     constructor
     ·intro e
      subst e;have h3:=hlt.1 (of_decide_eq_true hbb);refine Nat.lt_of_le_of_ne hii fun e2=>?_
      subst e2;exact(HAT hik).out h3
     ·intro e
      subst e;refine Nat.le_antisymm hii (Nat.le_of_not_lt fun h4=>?_)
      exact absurd (hlt.2 (HLT i hik h4).out) (of_decide_eq_false hbb))
    clear hA hrd0 hcz;generalize ks[i]=x at HRD CC;refine rB (Loc.P HL) [] [11] [0,1,2,3,4,5,6,7,8,9,10,11,12,13] 0 ?_;refine X3v ?_;intro HL;refine Xkc ?_;refine X6 ?_;refine Xkd ?_;refine xab rfl rfl HL (fun W hW=>xaz sl26 (.tmp 16) _ rfl ad m c i .i64 HSV.out rfl h1) ?_;refine X6 ?_;refine Xke ?_;refine X6 ?_;refine Xir ?_;refine X6 ?_;refine Xkf ?_;refine Xh ?_;intro K hK;refine Xax ?_;refine X7q ?_;clear hK K;intro w HL;refine xab rfl rfl HL (fun W hW=>xax (b:=bb) _ _ rfl _ _ rfl rfl hbb) ?_;refine X3k ?_;go_wp2_with fail;go_meet
    case rel=>exact⟨bb,rfl,HBB.out.1,HBB.out.2,HL⟩
   ·have k3:decide ((i:Int)<(m:Int))=false:=by simp;omega
    refine rB (Loc.P HL) [] [11] [0,1,2,3,4,5,6,7,8,9,10,11,12,13] 0 ?_;refine X3v ?_;intro HL;refine Xkc ?_;refine X6 ?_;refine Xkg ?_;refine X8k ?_;refine X8o ?_;refine Xb ?_;go_wp2_with fail;go_meet
    case rel=>exact⟨false,rfl,fun e=>(by cases e),fun _=>(by omega),HL⟩
  case rest =>
   clear HL;obtain⟨bb,rfl,hb1,hb2,HL⟩:=hcut;obtain⟨w,rfl⟩:=eW wc
   cases bb with
   | true =>
    have hlt:=hb1 rfl;refine Xb1 ?_;intro HI1;clear hb1 hb2;go_upto_region 3 with fail;refine Xb8 ?_;go_wp2_with fail;go_roundw
    case rel=>exact⟨i+1,rfl,hlt,HL⟩
    case measure=>simp[intOf]<;>omega
   | false =>
    have hie:=hb2 rfl;subst hie;clear hb1 hb2 hii;go_upto_region 4 with fail
    go_cut [39] from 11 (fun z wx=>∃ bb:Bool,z=.bool bb∧(bb=true→ks[i]? = some k)∧(bb=false→ks[i]? ≠ some k)∧Loc w0 (Old w0) [(g5,124,b)] wx)
    case first =>
     by_cases h1:i<m
     ·have k3:decide ((i:Int)<(m:Int))=true:=by simp;omega
      have hik:i<ks.length:=by omega
      obtain⟨ad,hA,hrd0⟩:=HKS.out.at_ i hik;have HSV:Hid (Value.slice A m c=.slice (some ad) m c):=hZ (by rw[hA]);have HRD:=hZ hrd0;obtain⟨bb,hbb⟩:∃ bb,(ks[i].l==k.l)=bb:=⟨_,rfl⟩
      have HBB:Hid ((bb=true→ks[i]? = some k)∧(bb=false→ks[i]? ≠ some k)):=hZ (by
       rw[List.getElem?_eq_getElem hik];refine⟨fun e=>?_,fun e h2=>?_⟩
       ·subst e
        rw[D32.ext (eq_of_beq hbb)]
       ·rw[Option.some.inj h2,e] at hbb
        simp at hbb)
      clear hA hrd0;generalize ks[i]=x at HRD hbb;refine rB (Loc.P HL) [] [] [0,1,2,3,4,5,6,7,8,9,10,11,12] 0 ?_;refine X3v ?_;intro HL;refine Xkc ?_;refine X6 ?_;refine Xkd ?_;refine xab rfl rfl HL (fun W hW=>xaz sl26 (.tmp 32) _ rfl ad m c i .i64 HSV.out rfl h1) ?_;refine X6 ?_;refine Xke ?_;refine X6 ?_;refine Xir ?_;refine X6 ?_;refine Xkf ?_;refine X6 ?_;refine xab rfl rfl HL (fun W hW=>xd1 ab23 _ _ rfl x k rfl rfl bb hbb) ?_;refine X3k ?_;go_wp2_with fail;go_meet
      case rel=>exact⟨bb,rfl,HBB.out.1,HBB.out.2,HL⟩
     ·have k3:decide ((i:Int)<(m:Int))=false:=by simp;omega
      refine rB (Loc.P HL) [] [] [0,1,2,3,4,5,6,7,8,9,10,11,12] 0 ?_;refine X3v ?_;intro HL;refine Xkc ?_;refine X6 ?_;refine Xkg ?_;refine X8k ?_;refine X8n ?_;refine Xb ?_;go_wp2_with fail;go_meet
      case rel=>exact⟨false,rfl,fun e=>(by cases e),fun _=>(by rw[List.getElem?_eq_none (by omega)];simp),HL⟩
    case rest =>
     clear HL;obtain⟨bb,rfl,hb1,hb2,HL⟩:=hcut;obtain⟨w,rfl⟩:=eW wc
     cases bb with
     | true =>
      have he:=HPY.out (hb1 rfl);go_upto_region 5 with fail;refine X7r ?_;go_wp2_with fail;go_ret2;(try rw[he]);exact⟨A,B,m,c,c2,rfl,HEE.out.below HL.below,HL.below⟩
     | false =>
      have hne:=hb2 rfl;have HQ1:=hZ (HQ1.out hne);have HQ2:=hZ (HQ2.out hne);have HPL:=hZ (HPL.out hne);clear hb1 hb2 hne;go_upto_region 6 with fail
      go_cut [9] from 11 (fun v wx=>∃ (s50:Sv)(G50:BL),v=s50.v∧Gw 24 32 G50 s50 (0+i+1) ([]++(ks.take i).flatMap D32.c++k.c)∧Loc w0 (Old w0) ((g5,124,b)::(G50++[])) wx)
      case first =>
       have HX:=HL;refine rB (Loc.P HL) [] [0,4,7,8] [1,2,3,5,6] 5 ?_;refine X3v ?_;intro HL;refine xab rfl rfl HL (fun W hW=>xbw sl26 _ _ rfl A m c i .i64 rfl rfl HIC.out.1) ?_;refine X6 ?_;refine Xir ?_;refine X6 ?_;refine Xkf ?_;refine X6 ?_;refine xcz [0,7] (by kernel_rfl) ?_;refine X4 ?_;refine⟨⟨rfl,?_⟩,⟨rfl,?_⟩,trivial⟩
       ·intro K hK
        first
        | refine xds sl26 el24 rfl HX ?_
        | refine xds sl26 el24 rfl HX.drew ?_
        clear HX HL;intro g42 w HX;refine Xki ?_;clear hK K;intro HL;refine xcz [4,7] (by kernel_rfl) ?_;refine X4 ?_;refine⟨⟨rfl,?_⟩,⟨rfl,?_⟩,trivial⟩
        ·intro K hK
         have hrk:=(HTK.out.below HL.below).rd
         first
         | refine xbh sl26 el24 _ _ rfl [] 0 ⟨aS g42,0,0⟩ [] (Gw.zero 24 32 g42) HX rfl A i c _ rfl hrk HTKL.out HTKO.out (by omega) (by omega) ?_
         | refine xbh sl26 el24 _ _ rfl [_] 0 ⟨aS g42,0,0⟩ [] (Gw.zero 24 32 g42) HX rfl A i c _ rfl hrk HTKL.out HTKO.out (by omega) (by omega) ?_
         clear HX HL hrk;intro s46 G46 w hG46 HX;simp only[qm,qn] at HX;refine Xki ?_;clear hK K;intro HL;refine xbk [7,8,9] 0 (by kernel_rfl) ?_;refine Xbl ?_;intro K hK
         first
         | refine xcc sl26 el24 (by decide) _ rfl HX k.c rfl (D32.cl _) ?_
         | refine xcc sl26 el24 (by decide) _ rfl HX.drew k.c rfl (D32.cl _) ?_
         clear HX HL;intro g49 w HX;refine Xkj ?_;clear hK K;intro HL K hK;refine Xkk ?_;intro hrk
         first
         | refine xan sl26 el24 _ _ rfl [_] _ s46 _ hG46 HX rfl ⟨g49,0,none⟩ 1 1 k.c rfl hrk (D32.cl _) (D32.c1 _) (by decide) (by omega) (by omega) ?_
         | refine xan sl26 el24 _ _ rfl [] _ s46 _ hG46 HX rfl ⟨g49,0,none⟩ 1 1 k.c rfl hrk (D32.cl _) (D32.c1 _) (by decide) (by omega) (by omega) ?_
         clear HX HL hrk hG46;intro s50 G50 w hG50 HX;simp only[qm,qn] at HX;refine Xkh ?_;intro HL;refine Xcx ?_;clear hK K
         have HX2:Loc w0 (Old w0) (G50++[(g5,124,b)]) w:=by
          first
          | exact HX.drop _ (sB _ _)
          | exact HX.drop _ (List.Sublist.append (List.Sublist.refl _) (sB _ _))
         go_wp2_with fail;go_meet
         case rel=>exact⟨_,_,rfl,hG50,HX2.perm (by rw[List.append_nil];exact(List.perm_append_singleton _ _).symm)⟩
        ·intro K hK
         first
         | refine xcc sl26 el24 (by decide) _ rfl HX k.c rfl (D32.cl _) ?_
         | refine xcc sl26 el24 (by decide) _ rfl HX.drew k.c rfl (D32.cl _) ?_
         clear HX HL;intro g49 w HX;refine Xki ?_;clear hK K;intro HL;refine xbk [4,8,9] 0 (by kernel_rfl) ?_;refine Xbl ?_;intro K hK;have hrk:=(HTK.out.below HL.below).rd
         first
         | refine xbh sl26 el24 _ _ rfl [] 0 ⟨aS g42,0,0⟩ [] (Gw.zero 24 32 g42) HX rfl A i c _ rfl hrk HTKL.out HTKO.out (by omega) (by omega) ?_
         | refine xbh sl26 el24 _ _ rfl [_] 0 ⟨aS g42,0,0⟩ [] (Gw.zero 24 32 g42) HX rfl A i c _ rfl hrk HTKL.out HTKO.out (by omega) (by omega) ?_
         clear HX HL hrk;intro s46 G46 w hG46 HX;simp only[qm,qn] at HX;refine Xkj ?_;clear hK K;intro HL K hK;refine Xkk ?_;intro hrk
         first
         | refine xan sl26 el24 _ _ rfl [_] _ s46 _ hG46 HX rfl ⟨g49,0,none⟩ 1 1 k.c rfl hrk (D32.cl _) (D32.c1 _) (by decide) (by omega) (by omega) ?_
         | refine xan sl26 el24 _ _ rfl [] _ s46 _ hG46 HX rfl ⟨g49,0,none⟩ 1 1 k.c rfl hrk (D32.cl _) (D32.c1 _) (by decide) (by omega) (by omega) ?_
         clear HX HL hrk hG46;intro s50 G50 w hG50 HX;simp only[qm,qn] at HX;refine Xkh ?_;intro HL;refine Xcx ?_;clear hK K
         have HX2:Loc w0 (Old w0) (G50++[(g5,124,b)]) w:=by
          first
          | exact HX.drop _ (sB _ _)
          | exact HX.drop _ (List.Sublist.append (List.Sublist.refl _) (sB _ _))
         go_wp2_with fail;go_meet
         case rel=>exact⟨_,_,rfl,hG50,HX2.perm (by rw[List.append_nil];exact(List.perm_append_singleton _ _).symm)⟩
       ·intro K hK
        first
        | refine xcc sl26 el24 (by decide) _ rfl HX k.c rfl (D32.cl _) ?_
        | refine xcc sl26 el24 (by decide) _ rfl HX.drew k.c rfl (D32.cl _) ?_
        clear HX HL;intro g49 w HX;refine Xki ?_;clear hK K;intro HL;refine xbk [0,4,8,9] 0 (by kernel_rfl) ?_;refine Xbl ?_;intro K hK
        first
        | refine xds sl26 el24 rfl HX ?_
        | refine xds sl26 el24 rfl HX.drew ?_
        clear HX HL;intro g42 w HX;refine Xkj ?_;clear hK K;intro HL K hK;have hrk:=(HTK.out.below HL.below).rd
        first
        | refine xbh sl26 el24 _ _ rfl [] 0 ⟨aS g42,0,0⟩ [] (Gw.zero 24 32 g42) HX rfl A i c _ rfl hrk HTKL.out HTKO.out (by omega) (by omega) ?_
        | refine xbh sl26 el24 _ _ rfl [_] 0 ⟨aS g42,0,0⟩ [] (Gw.zero 24 32 g42) HX rfl A i c _ rfl hrk HTKL.out HTKO.out (by omega) (by omega) ?_
        clear HX HL hrk;intro s46 G46 w hG46 HX;simp only[qm,qn] at HX;refine Xkj ?_;clear hK K;intro HL K hK;refine Xkk ?_;intro hrk
        first
        | refine xan sl26 el24 _ _ rfl [_] _ s46 _ hG46 HX rfl ⟨g49,0,none⟩ 1 1 k.c rfl hrk (D32.cl _) (D32.c1 _) (by decide) (by omega) (by omega) ?_
        | refine xan sl26 el24 _ _ rfl [] _ s46 _ hG46 HX rfl ⟨g49,0,none⟩ 1 1 k.c rfl hrk (D32.cl _) (D32.c1 _) (by decide) (by omega) (by omega) ?_
        clear HX HL hrk hG46;intro s50 G50 w hG50 HX;simp only[qm,qn] at HX;refine Xkh ?_;intro HL;refine Xcx ?_;clear hK K
        have HX2:Loc w0 (Old w0) (G50++[(g5,124,b)]) w:=by
         first
         | exact HX.drop _ (sB _ _)
         | exact HX.drop _ (List.Sublist.append (List.Sublist.refl _) (sB _ _))
        go_wp2_with fail;go_meet
        case rel=>exact⟨_,_,rfl,hG50,HX2.perm (by rw[List.append_nil];exact(List.perm_append_singleton _ _).symm)⟩
      case rest =>
       clear HL;obtain⟨s50,G50,rfl,hG50,HL⟩:=hcut;obtain⟨w,rfl⟩:=eW wc;go_upto_region 7 with fail
       go_cut [10] from 11 (fun v wx=>∃ (s59:Sv)(G59:BL),v=s59.v∧Gw 23 32 G59 s59 (0+i+1) ([]++(hs.take i).flatMap D32.c++kv.c)∧Loc w0 (Old w0) (G59++(G50++[])) wx)
       case first =>
        have HX:=HL;clear HL;refine Xkh ?_;intro HL;refine rB (Loc.P HL) [] [0,4,7,8] [1,2,3,5,6] 5 ?_;refine X3v ?_;intro HL;refine xab rfl rfl HL (fun W hW=>xbw sl29 _ _ rfl B m c2 i .i64 rfl rfl HIC.out.2) ?_;refine X6 ?_;refine xab rfl rfl HL (fun W hW=>xaf xjp _ rfl _ rfl) ?_;refine X6 ?_;refine xab rfl rfl HL (fun W hW=>xav ag23 hW _ rfl g5 33 rfl 124 _ _ (.head _) HB.out.2 (D32.cl _)) ?_;refine X6 ?_;refine xcz [0,7] (by kernel_rfl) ?_;refine X4 ?_;refine⟨⟨rfl,?_⟩,⟨rfl,?_⟩,trivial⟩
        ·intro K hK
         first
         | refine xds sl29 el23 rfl HX ?_
         | refine xds sl29 el23 rfl HX.drew ?_
         clear HX HL;intro g51 w HX;refine Xki ?_;clear hK K;intro HL;refine xcz [4,7] (by kernel_rfl) ?_;refine X4 ?_;refine⟨⟨rfl,?_⟩,⟨rfl,?_⟩,trivial⟩
         ·intro K hK
          have hrk:=(HTV.out.below HL.below).rd
          first
          | refine xbh sl29 el23 _ _ rfl [] 0 ⟨aS g51,0,0⟩ [] (Gw.zero 23 32 g51) HX rfl B i c2 _ rfl hrk HTVL.out HTVO.out (by omega) (by omega) ?_
          | refine xbh sl29 el23 _ _ rfl [_] 0 ⟨aS g51,0,0⟩ [] (Gw.zero 23 32 g51) HX rfl B i c2 _ rfl hrk HTVL.out HTVO.out (by omega) (by omega) ?_
          clear HX HL hrk;intro s55 G55 w hG55 HX;simp only[qm,qn] at HX;refine Xki ?_;clear hK K;intro HL;refine xbk [7,8,9] 0 (by kernel_rfl) ?_;refine Xbl ?_;intro K hK
          first
          | refine xcc sl29 el23 (by decide) _ rfl HX kv.c rfl (D32.cl _) ?_
          | refine xcc sl29 el23 (by decide) _ rfl HX.drew kv.c rfl (D32.cl _) ?_
          clear HX HL;intro g58 w HX;refine Xkj ?_;clear hK K;intro HL K hK;refine Xkl ?_;intro hrk
          first
          | refine xan sl29 el23 _ _ rfl [_] _ s55 _ hG55 HX rfl ⟨g58,0,none⟩ 1 1 kv.c rfl hrk (D32.cl _) (D32.c1 _) (by decide) (by omega) (by omega) ?_
          | refine xan sl29 el23 _ _ rfl [] _ s55 _ hG55 HX rfl ⟨g58,0,none⟩ 1 1 kv.c rfl hrk (D32.cl _) (D32.c1 _) (by decide) (by omega) (by omega) ?_
          clear HX HL hrk hG55;intro s59 G59 w hG59 HX;simp only[qm,qn] at HX;refine Xkh ?_;intro HL;refine Xcx ?_;clear hK K
          have HX2:Loc w0 (Old w0) (G59++(G50++[])) w:=by
           first
           | exact HX.drop _ (List.Sublist.cons _ (List.Sublist.append (List.Sublist.refl _) (sB _ _)))
           | exact HX.drop _ (List.Sublist.append (List.Sublist.refl _) (List.Sublist.cons _ (sB _ _)))
          go_wp2_with fail;go_meet
          case rel=>exact⟨_,_,rfl,hG59,HX2⟩
         ·intro K hK
          first
          | refine xcc sl29 el23 (by decide) _ rfl HX kv.c rfl (D32.cl _) ?_
          | refine xcc sl29 el23 (by decide) _ rfl HX.drew kv.c rfl (D32.cl _) ?_
          clear HX HL;intro g58 w HX;refine Xki ?_;clear hK K;intro HL;refine xbk [4,8,9] 0 (by kernel_rfl) ?_;refine Xbl ?_;intro K hK;have hrk:=(HTV.out.below HL.below).rd
          first
          | refine xbh sl29 el23 _ _ rfl [] 0 ⟨aS g51,0,0⟩ [] (Gw.zero 23 32 g51) HX rfl B i c2 _ rfl hrk HTVL.out HTVO.out (by omega) (by omega) ?_
          | refine xbh sl29 el23 _ _ rfl [_] 0 ⟨aS g51,0,0⟩ [] (Gw.zero 23 32 g51) HX rfl B i c2 _ rfl hrk HTVL.out HTVO.out (by omega) (by omega) ?_
          clear HX HL hrk;intro s55 G55 w hG55 HX;simp only[qm,qn] at HX;refine Xkj ?_;clear hK K;intro HL K hK;refine Xkl ?_;intro hrk
          first
          | refine xan sl29 el23 _ _ rfl [_] _ s55 _ hG55 HX rfl ⟨g58,0,none⟩ 1 1 kv.c rfl hrk (D32.cl _) (D32.c1 _) (by decide) (by omega) (by omega) ?_
          | refine xan sl29 el23 _ _ rfl [] _ s55 _ hG55 HX rfl ⟨g58,0,none⟩ 1 1 kv.c rfl hrk (D32.cl _) (D32.c1 _) (by decide) (by omega) (by omega) ?_
          clear HX HL hrk hG55;intro s59 G59 w hG59 HX;simp only[qm,qn] at HX;refine Xkh ?_;intro HL;refine Xcx ?_;clear hK K
          have HX2:Loc w0 (Old w0) (G59++(G50++[])) w:=by
           first
           | exact HX.drop _ (List.Sublist.cons _ (List.Sublist.append (List.Sublist.refl _) (sB _ _)))
           | exact HX.drop _ (List.Sublist.append (List.Sublist.refl _) (List.Sublist.cons _ (sB _ _)))
          go_wp2_with fail;go_meet
          case rel=>exact⟨_,_,rfl,hG59,HX2⟩
        ·intro K hK
         first
         | refine xcc sl29 el23 (by decide) _ rfl HX kv.c rfl (D32.cl _) ?_
         | refine xcc sl29 el23 (by decide) _ rfl HX.drew kv.c rfl (D32.cl _) ?_
         clear HX HL;intro g58 w HX;refine Xki ?_;clear hK K;intro HL;refine xbk [0,4,8,9] 0 (by kernel_rfl) ?_;refine Xbl ?_;intro K hK
         first
         | refine xds sl29 el23 rfl HX ?_
         | refine xds sl29 el23 rfl HX.drew ?_
         clear HX HL;intro g51 w HX;refine Xkj ?_;clear hK K;intro HL K hK;have hrk:=(HTV.out.below HL.below).rd
         first
         | refine xbh sl29 el23 _ _ rfl [] 0 ⟨aS g51,0,0⟩ [] (Gw.zero 23 32 g51) HX rfl B i c2 _ rfl hrk HTVL.out HTVO.out (by omega) (by omega) ?_
         | refine xbh sl29 el23 _ _ rfl [_] 0 ⟨aS g51,0,0⟩ [] (Gw.zero 23 32 g51) HX rfl B i c2 _ rfl hrk HTVL.out HTVO.out (by omega) (by omega) ?_
         clear HX HL hrk;intro s55 G55 w hG55 HX;simp only[qm,qn] at HX;refine Xkj ?_;clear hK K;intro HL K hK;refine Xkl ?_;intro hrk
         first
         | refine xan sl29 el23 _ _ rfl [_] _ s55 _ hG55 HX rfl ⟨g58,0,none⟩ 1 1 kv.c rfl hrk (D32.cl _) (D32.c1 _) (by decide) (by omega) (by omega) ?_
         | refine xan sl29 el23 _ _ rfl [] _ s55 _ hG55 HX rfl ⟨g58,0,none⟩ 1 1 kv.c rfl hrk (D32.cl _) (D32.c1 _) (by decide) (by omega) (by omega) ?_
         clear HX HL hrk hG55;intro s59 G59 w hG59 HX;simp only[qm,qn] at HX;refine Xkh ?_;intro HL;refine Xcx ?_;clear hK K
         have HX2:Loc w0 (Old w0) (G59++(G50++[])) w:=by
          first
          | exact HX.drop _ (List.Sublist.cons _ (List.Sublist.append (List.Sublist.refl _) (sB _ _)))
          | exact HX.drop _ (List.Sublist.append (List.Sublist.refl _) (List.Sublist.cons _ (sB _ _)))
         go_wp2_with fail;go_meet
         case rel=>exact⟨_,_,rfl,hG59,HX2⟩
       case rest =>
        clear HL;obtain⟨s59,G59,rfl,hG59,HX⟩:=hcut;obtain⟨w,rfl⟩:=eW wc;refine Xkm ?_;intro HL;go_upto_region 8 with fail;refine rB ((fun wq=>Loc w0 (Old w0) [] wq)) [] [4,9] [0,1,2,3,5,6,7,8,4,9,10,11] 0 ?_;refine X8x ?_;intro HL;refine xab rfl rfl HL (fun W hW=>xbt sl26 _ _ rfl A m c i .i64 rfl rfl HIM.out) ?_;refine X95 ?_;refine xab rfl rfl HL (fun W hW=>xbt sl29 _ _ rfl B m c2 i .i64 rfl rfl HIM.out) ?_;refine Xh ?_;intro K hK;have hrk:=(HDK.out.below HL.below).rd
        first
        | refine xbh sl26 el24 _ _ rfl _ _ s50 _ hG50 HX rfl (cutA A c i 32) (m - i) (c - i) _ rfl hrk HDKL.out HDKO.out (by omega) (by omega) ?_
        | refine xbh sl26 el24 _ _ rfl _ _ s50 _ hG50 HX.drew rfl (cutA A c i 32) (m - i) (c - i) _ rfl hrk HDKL.out HDKO.out (by omega) (by omega) ?_
        clear HX HL hrk hG50;intro s64 G64 w hG64 HX;refine Xkm ?_;intro HL;refine X3y ?_;clear hK K;intro K hK;have hrk:=(HDV.out.below HL.below).rd
        first
        | refine xbh sl29 el23 _ _ rfl [] _ s59 _ hG59 HX rfl (cutA B c2 i 32) (m - i) (c2 - i) _ rfl hrk HDVL.out HDVO.out (by omega) (by omega) ?_
        | refine xbh sl29 el23 _ _ rfl [] _ s59 _ hG59 HX.drew rfl (cutA B c2 i 32) (m - i) (c2 - i) _ rfl hrk HDVL.out HDVO.out (by omega) (by omega) ?_
        clear HX HL hrk hG59;intro s69 G69 w hG69 HX;simp only[qn] at HX;refine Xkm ?_;intro HL;refine X3x ?_;clear hK K;refine X4q ?_;go_wp2_with fail;go_ret2;rw[HQ1.out] at hG64;rw[HQ2.out] at hG69;exact who_of hG64 hG69 HX (by omega) HPL.out
end
theorem D32.take_(x:D32):(x.c.drop 0).take 32=x.c:=by rw[List.drop_zero,List.take_of_length_le (by rw[D32.cl];exact Nat.le_refl _)]
theorem BrS.tl{w:World}{sv:Sv}{b:Brv}{bs:List Brv}(h:BrS w sv (b::bs)):BrS w ⟨cutA sv.A sv.c 1 97,sv.n - 1,sv.c - 1⟩ bs:=by
 have hl:=h.len;rw[List.length_cons] at hl;have hc:=h.cap;refine⟨?_,by show bs.length=sv.n - 1;omega,by show sv.n - 1≤sv.c - 1;omega,fun x hx=>h.k x (by simp[hx])⟩;have h3:=h.rd.cutA (c:=sv.c) (lo:=1) (z:=97) (by rw[xaw Brv.len,List.length_cons];exact Nat.mul_le_mul_right _ (by omega)) (bs.length*97)
 have e:(((b::bs).flatMap Brv.cells).drop (1*97)).take (bs.length*97)=bs.flatMap Brv.cells:=by
  rw[List.flatMap_cons,Nat.one_mul,List.drop_left' (Brv.len b),List.take_of_length_le (by rw[xaw Brv.len];exact Nat.le_refl _)]
 rw[e] at h3;exact h3
def NxO(v:World)(x:D32)(rest:List Brv)(w:World)(e:Ending)(w':World):Prop:=∃ sv:Sv,e=.returned (.tuple #[x.a,sv.v])∧BrS v sv rest∧Bw w w'
structure NxI (v w:World)(n d:Nat)(t:Tre)(es:List Ent)(A B:Option Addr)(m c c2:Nat):Prop where
 dn:d+n=256
 ok:t.Ok d
 ri:Rise es
 al:AlkE d es
 nr:∀ p∈es,∀ k∈t.keys,∀ e,e<d→tb p.1.l e=tb k.l e
 vl:∀ p∈es,p.2.length≤1024
 en:EnS v A B m c c2 es
 m8:m≤1000
 bv:Bw v w
theorem NxI.lo{v w:World}{n d:Nat}{l r:Tre}{es:List Ent}{A B:Option Addr}{m c c2:Nat}(h:NxI v w (n+1) d (.inner l r) es A B m c c2){u:World}(hu:Bw v u):NxI v u n (d+1) l (loE d es) A B (xbd (es.map Prod.fst) d) c c2:=by
 obtain⟨hd,o1,o2,b1,b2,_⟩:=h.ok;have sL:∀ p∈loE d es,p∈es:=fun p hp=>(List.takeWhile_sublist _).subset hp
 refine⟨by have:=h.dn;omega,o1,h.ri.sublist (List.takeWhile_sublist _),xj2 h.al,fun p hp k hk e he=>?_,fun p hp=>h.vl p (sL p hp),h.en.lo d,?_,hu⟩
 ·by_cases hed:e=d
  ·subst hed;rw[xdt p hp,b1 k hk]
  ·exact h.nr p (sL p hp) k (List.mem_append.2 (.inl hk)) e (by omega)
 ·have:=xen (es.map Prod.fst) d
  rw[List.length_map,h.en.len] at this;have:=h.m8;omega
theorem NxI.hi{v w:World}{n d:Nat}{l r:Tre}{es:List Ent}{A B:Option Addr}{m c c2:Nat}(h:NxI v w (n+1) d (.inner l r) es A B m c c2){u:World}(hu:Bw v u):NxI v u n (d+1) r (hiE d es) (cutA A c (xbd (es.map Prod.fst) d) 32) (cutA B c2 (xbd (es.map Prod.fst) d) 32) (m - xbd (es.map Prod.fst) d) (c - xbd (es.map Prod.fst) d) (c2 - xbd (es.map Prod.fst) d):=by
 obtain⟨hd,o1,o2,b1,b2,_⟩:=h.ok;have sH:∀ p∈hiE d es,p∈es:=fun p hp=>(List.dropWhile_sublist _).subset hp
 refine⟨by have:=h.dn;omega,o2,h.ri.sublist (List.dropWhile_sublist _),xog hd h.ri h.al,fun p hp k hk e he=>?_,fun p hp=>h.vl p (sH p hp),h.en.hi d,by have:=h.m8;omega,hu⟩;by_cases hed:e=d
 ·subst hed;rw[xew hd h.ri h.al p hp,b2 k hk]
 ·exact h.nr p (sH p hp) k (List.mem_append.2 (.inr hk)) e (by omega)
section
variable {v w w':World}
theorem xmv(x:D32)(sv:Sv)(rest:List Brv)(A B:Option Addr)(m c c2 d:Nat)(hv:Bw v w)(hB:BrS v sv (⟨3,D32.z,D32.z,x⟩::rest)):Calls prog 141 #[sv.v,.slice A m c,.slice B m c2,iV d] w (NxO v x rest w):=by
 have HV:=hZ hv;clear hv;obtain⟨b,hb0⟩:∃ b,b=(⟨3,D32.z,D32.z,x⟩:Brv):=⟨_,rfl⟩;rw[← hb0] at hB;refine Xkn ?_;intro ad hA hrd0 HR;have HTL:=hZ hB.tl;have hN:1≤sv.n:=by rw[← hB.len];simp
 obtain⟨n,hn⟩:∃ n,sv.n=n:=⟨_,rfl⟩;obtain⟨cc,hc⟩:∃ cc,sv.c=cc:=⟨_,rfl⟩;have HSV:Hid (sv.v=.slice (some ad) n cc):=hZ (by unfold Sv.v;rw[hA,hn,hc]);rw[hn] at HTL hN;rw[hc,hA] at HTL;obtain⟨sv1,hsv1⟩:∃ s:Sv,(⟨cutA (some ad) cc 1 97,n - 1,cc - 1⟩:Sv)=s:=⟨_,rfl⟩;have HS1:Hid (Value.slice (cutA (some ad) cc 1 97) (n - 1) (cc - 1)=sv1.v):=hZ (by rw[← hsv1];rfl);rw[hsv1] at HTL;clear hA hrd0 hB hn hc hsv1;obtain⟨w0,rfl,HL⟩:=lS w;go_enter func141,ntmps141;go_upto_region 0 with fail;refine Xt ?_;refine X5o ?_;clear HL;intro g8 w HL;refine X1a ?_;go_upto_region 1 with fail;refine Xko ?_;refine X3c ?_;intro HL;refine Xkp ?_;refine X6 ?_;refine Xkq ?_;refine X3g ?_;refine Xkr ?_;refine Xks ?_;intro K hK;clear HL;intro g10 w HX;refine Xkt ?_;intro HL;refine X3y ?_;clear hK K;intro K hK;refine Xku ?_
 clear HL HX;intro w HX;simp only[qg,qh] at HX;refine Xkt ?_;intro HL;refine Xcx ?_;clear hK K;clear HL;have HL:=HX;clear HX;rw[HS1.out];go_upto_region 2 with fail;refine Xg1 ?_;subst hb0;go_upto_region 3 with fail;refine Xt ?_;refine Xfl ?_;refine X1a ?_;go_upto_region 4 with fail;refine Xt ?_;refine Xg7 ?_;refine X6 ?_;refine Xg8 ?_;refine X15 ?_;refine Xj5 ?_;clear HL;intro w HL;go_wp2_with fail;refine Xc ?_;refine Xkv ?_;exact⟨sv1,rfl,HTL.out,HL.below⟩
theorem next_any:∀ (t:Tre) (v w:World)(n d:Nat)(es:List Ent)(A B:Option Addr)(m c c2:Nat)(sv:Sv)(rest:List Brv),NxI v w n d t es A B m c c2→BrS v sv (skT t (es.map Prod.fst) d++rest)→Calls prog 141 #[sv.v,.slice A m c,.slice B m c2,iV d] w (NxO v (updT n d t es).dg rest w):=by
 intro t
 induction t with
 | nil=>as_aux_lemma =>
  intro v w nn d es A B m c c2 sv rest hI hB;have e:updT nn d .nil es=xak nn d es:=by cases nn<;>rfl
  rw[e];clear e;have hB:BrS v sv (Brv.z::rest):=hB;have HV:=hZ hI.bv;have CR:∀ u,Bw w u→Hid (Calls prog 203 #[.slice A m c,.slice B m c2,iV d] u (DgO (xak nn d es).dg u)):=fun u hu=>hZ (xlc nn d es u A B m c c2 hI.dn hI.ri hI.al hI.vl (hI.en.below (HV.out.trans (hu.mono HV.out.size))) (by have:=hI.m8;omega))
  generalize (xak nn d es).dg=dg at CR ⊢;clear hI;obtain⟨b,hb0⟩:∃ b,b=(Brv.z):=⟨_,rfl⟩;rw[← hb0] at hB;refine Xkn ?_;intro ad hA hrd0 HR;have HTL:=hZ hB.tl;have hN:1≤sv.n:=by rw[← hB.len];simp
  obtain⟨n,hn⟩:∃ n,sv.n=n:=⟨_,rfl⟩;obtain⟨cc,hc⟩:∃ cc,sv.c=cc:=⟨_,rfl⟩;have HSV:Hid (sv.v=.slice (some ad) n cc):=hZ (by unfold Sv.v;rw[hA,hn,hc]);rw[hn] at HTL hN;rw[hc,hA] at HTL;obtain⟨sv1,hsv1⟩:∃ s:Sv,(⟨cutA (some ad) cc 1 97,n - 1,cc - 1⟩:Sv)=s:=⟨_,rfl⟩;have HS1:Hid (Value.slice (cutA (some ad) cc 1 97) (n - 1) (cc - 1)=sv1.v):=hZ (by rw[← hsv1];rfl);rw[hsv1] at HTL;clear hA hrd0 hB hn hc hsv1;obtain⟨w0,rfl,HL⟩:=lS w;go_enter func141,ntmps141;go_upto_region 0 with fail;refine Xt ?_;refine X5o ?_;clear HL;intro g8 w HL;refine X1a ?_;go_upto_region 1 with fail;refine Xko ?_;refine X3c ?_;intro HL;refine Xkp ?_;refine X6 ?_;refine Xkq ?_;refine X3g ?_;refine Xkr ?_;refine Xks ?_;intro K hK;clear HL;intro g10 w HX;refine Xkt ?_;intro HL;refine X3y ?_;clear hK K;intro K hK;refine Xku ?_
  clear HL HX;intro w HX;simp only[qg,qh] at HX;refine Xkt ?_;intro HL;refine Xcx ?_;clear hK K;clear HL;have HL:=HX;clear HX;rw[HS1.out];go_upto_region 2 with fail;refine Xg1 ?_;subst hb0;go_upto_region 3 with fail;refine Xt ?_;refine Xkw ?_;go_upto_region 5 with fail;refine Xt ?_;refine Xfl ?_;refine X1a ?_;go_upto_region 6 with fail;refine Xed ?_;intro K hK;refine xad cf203 rfl _ rfl ?_;refine X1w ?_;refine Xfv ?_;refine X45 ?_;clear hK K;intro w HL;refine X15 ?_;refine Xj5 ?_;clear HL;intro w HL;go_wp2_with fail;refine Xc ?_;refine Xkv ?_;exact⟨sv1,rfl,HTL.out,HL.below⟩
 | leaf k vv=>as_aux_lemma =>
  intro v w nn d es A B m c c2 sv rest hI hB;by_cases hes:es = []
  ·subst hes
   have e:updT nn d (.leaf k vv) []=.leaf k vv:=by cases nn<;>rfl
   rw[e];exact xmv _ sv rest A B m c c2 d hI.bv hB
  ·have e:updT nn d (.leaf k vv) es=xak nn d (putK es k vv):=by
    have:updT nn d (.leaf k vv) es=if es = [] then .leaf k vv else xak nn d (putK es k vv):=by cases nn<;>rfl
    rw[this,if_neg hes]
   rw[e]
   have e2:skT (.leaf k vv) (es.map Prod.fst) d = [⟨1,k,tagV vv,D32.z⟩]:=by
    cases es with
    | nil=>exact absurd rfl hes
    | cons p l=>rfl
   rw[e2] at hB;have hB:BrS v sv ((⟨1,k,tagV vv,D32.z⟩:Brv)::rest):=hB;obtain⟨hr2,p2,hpl⟩:=xmq es k vv hI.ri;have hk:∀ p∈es,∀ e,e<d→tb p.1.l e=tb k.l e:=fun p hp e he=>hI.nr p hp k (by simp[Tre.keys]) e he
   have ha2:AlkE d (putK es k vv):=fun p hp q hq e he=>by
    have hx:∀ p∈putK es k vv,tb p.1.l e=tb k.l e:=fun p hp=>by
     rcases (p2 p).1 hp with h | ⟨_,rfl⟩
     ·exact hk p h e he
     ·rfl
    rw[hx p hp,hx q hq]
   have hv2:∀ p∈putK es k vv,p.2.length≤1024:=fun p hp=>by
    rcases (p2 p).1 hp with h | ⟨_,rfl⟩
    ·exact hI.vl p h
    ·exact hI.ok.1
   have hdn:=hI.dn;have hel:=hI.en.len;have hm8:=hI.m8;have HV:=hZ hI.bv;have CW:∀ u,Bw w u→Hid (Calls prog 204 #[.slice A m c,.slice B m c2,.agg (⟨1,k,tagV vv,D32.z⟩:Brv).cells.toArray] u (WhO u (putK es k vv))):=fun u hu=>hZ (with_any es k vv A B m c c2 (hI.en.below (HV.out.trans (hu.mono HV.out.size))) (by have:=hI.m8;omega))
   clear hI e e2 hes p2 hk;obtain⟨b,hb0⟩:∃ b,b=(⟨1,k,tagV vv,D32.z⟩:Brv):=⟨_,rfl⟩;rw[← hb0] at hB;refine Xkn ?_;intro ad hA hrd0 HR;have HTL:=hZ hB.tl;have hN:1≤sv.n:=by rw[← hB.len];simp
   obtain⟨n,hn⟩:∃ n,sv.n=n:=⟨_,rfl⟩;obtain⟨cc,hc⟩:∃ cc,sv.c=cc:=⟨_,rfl⟩;have HSV:Hid (sv.v=.slice (some ad) n cc):=hZ (by unfold Sv.v;rw[hA,hn,hc]);rw[hn] at HTL hN;rw[hc,hA] at HTL;obtain⟨sv1,hsv1⟩:∃ s:Sv,(⟨cutA (some ad) cc 1 97,n - 1,cc - 1⟩:Sv)=s:=⟨_,rfl⟩;have HS1:Hid (Value.slice (cutA (some ad) cc 1 97) (n - 1) (cc - 1)=sv1.v):=hZ (by rw[← hsv1];rfl);rw[hsv1] at HTL;clear hA hrd0 hB hn hc hsv1;obtain⟨w0,rfl,HL⟩:=lS w;go_enter func141,ntmps141;go_upto_region 0 with fail;refine Xt ?_;refine X5o ?_;clear HL;intro g8 w HL;refine X1a ?_;go_upto_region 1 with fail;refine Xko ?_;refine X3c ?_;intro HL;refine Xkp ?_;refine X6 ?_;refine Xkq ?_;refine X3g ?_;refine Xkr ?_;refine Xks ?_;intro K hK;clear HL;intro g10 w HX;refine Xkt ?_;intro HL;refine X3y ?_;clear hK K;intro K hK;refine Xku ?_
   clear HL HX;intro w HX;simp only[qg,qh] at HX;refine Xkt ?_;intro HL;refine Xcx ?_;clear hK K;clear HL;have HL:=HX;clear HX;rw[HS1.out];go_upto_region 2 with fail;refine Xg1 ?_;subst hb0;go_upto_region 3 with fail;refine Xt ?_;refine Xkw ?_;go_upto_region 5 with fail;refine Xt ?_;refine Xkw ?_;go_upto_region 7 with fail;refine Xt ?_;refine Xfl ?_;refine X1a ?_;go_upto_region 8 with fail;refine X19 ?_;refine Xg2 ?_;refine X50 ?_;intro K hK;refine xad cf204 rfl _ rfl ?_;refine X1w ?_;(with_reducible refine((CW _ HL.below).out).mono ?_);rintro e w ⟨A2,B2,m2,c5,c6,rfl,hE2,hb⟩;replace HL:=HL.next hb;clear hb;refine X7l ?_;clear hK K;have CR:=hZ (xlc nn d (putK es k vv) w A2 B2 m2 c5 c6 hdn hr2 ha2 hv2 hE2 (by have:=hE2.len;omega));clear hE2;go_upto_region 9 with fail;refine Xed ?_;intro K hK
   refine xad cf203 rfl _ rfl ?_;refine Xk5 ?_;refine X45 ?_;clear hK K;intro w HL;refine X15 ?_;refine Xj5 ?_;clear HL;intro w HL;go_wp2_with fail;refine Xc ?_;refine Xkv ?_;exact⟨sv1,rfl,HTL.out,HL.below⟩
 | inner l r ihl ihr=>as_aux_lemma =>
  intro v w nn d es A B m c c2 sv rest hI hB;obtain⟨n,rfl⟩:∃ n,nn=n+1:=⟨nn - 1,by have:=hI.dn;have:=hI.ok.1;omega⟩;by_cases hes:es = []
  ·subst hes
   rw[xvk];exact xmv _ sv rest A B m c c2 d hI.bv hB
  ·have e:(updT (n+1) d (.inner l r) es).dg=tagI (updT n (d+1) l (loE d es)).dg (updT n (d+1) r (hiE d es)).dg:=by
    rw[updT,if_neg hes];rfl
   rw[e]
   have e2:skT (.inner l r) (es.map Prod.fst) d=⟨2,D32.z,D32.z,D32.z⟩::(skT l ((loE d es).map Prod.fst) (d+1)++skT r ((hiE d es).map Prod.fst) (d+1)):=by
    rw[xh4,hiE_keys]
    cases es with
    | nil=>exact absurd rfl hes
    | cons p l=>rfl
   rw[e2,List.cons_append,List.append_assoc] at hB;have HV:=hZ hI.bv;have HD:Hid (d<256):=hZ hI.ok.1;refine Xd0 ?_;intro HD1;obtain⟨pn,hpn⟩:∃ pn,xbd (es.map Prod.fst) d=pn:=⟨_,rfl⟩;have HPN:Hid (pn≤m):=hZ (by have:=xen (es.map Prod.fst) d;rw[List.length_map,hI.en.len] at this;omega);have HPC:Hid (pn≤c∧pn≤c2):=hZ ⟨by have:=HPN.out;have:=hI.en.k.cap;omega,by have:=HPN.out;have:=hI.en.v.cap;omega⟩;have CP:∀ u,Bw w u→Hid (Calls prog 205 #[.slice A m c,iV d] u (oB u (.int .i64 ((pn:Nat):Int)))):=fun u hu=>hZ (by rw[← hpn];exact xms A m c (es.map Prod.fst) d HD.out u (hI.en.k.below (HV.out.trans (hu.mono HV.out.size))) (by have:=hI.m8;omega))
   have CA0:∀ (s:Sv),BrS v s (skT l ((loE d es).map Prod.fst) (d+1)++(skT r ((hiE d es).map Prod.fst) (d+1)++rest))→∀ u,Bw w u→Hid (Calls prog 141 #[s.v,.slice A pn c,.slice B pn c2,.int .i64 ((d+1:Nat):Int)] u (NxO v (updT n (d+1) l (loE d es)).dg (skT r ((hiE d es).map Prod.fst) (d+1)++rest) u)):=fun s hs u hu=>hZ (by rw[← hpn];exact ihl v u n (d+1) (loE d es) A B _ c c2 s _ (hI.lo (HV.out.trans (hu.mono HV.out.size))) hs)
   have CB:∀ (s:Sv),BrS v s (skT r ((hiE d es).map Prod.fst) (d+1)++rest)→∀ u,Bw w u→Hid (Calls prog 141 #[s.v,.slice (cutA A c pn 32) (m - pn) (c - pn),.slice (cutA B c2 pn 32) (m - pn) (c2 - pn),.int .i64 ((d+1:Nat):Int)] u (NxO v (updT n (d+1) r (hiE d es)).dg rest u)):=fun s hs u hu=>hZ (by rw[← hpn];exact ihr v u n (d+1) (hiE d es) _ _ _ _ _ s _ (hI.hi (HV.out.trans (hu.mono HV.out.size))) hs)
   generalize (updT n (d+1) l (loE d es)).dg=da at CA0 ⊢;generalize (updT n (d+1) r (hiE d es)).dg=db at CB ⊢;generalize skT r ((hiE d es).map Prod.fst) (d+1)++rest=rest2 at CA0 CB hB;generalize skT l ((loE d es).map Prod.fst) (d+1)++rest2=rest1 at CA0 hB;clear hI e e2 hes hpn ihl ihr;obtain⟨b,hb0⟩:∃ b,b=(⟨2,D32.z,D32.z,D32.z⟩:Brv):=⟨_,rfl⟩;rw[← hb0] at hB;refine Xkn ?_;intro ad hA hrd0 HR;have HTL:=hZ hB.tl;have hN:1≤sv.n:=by rw[← hB.len];simp
   obtain⟨n,hn⟩:∃ n,sv.n=n:=⟨_,rfl⟩;obtain⟨cc,hc⟩:∃ cc,sv.c=cc:=⟨_,rfl⟩;have HSV:Hid (sv.v=.slice (some ad) n cc):=hZ (by unfold Sv.v;rw[hA,hn,hc]);rw[hn] at HTL hN;rw[hc,hA] at HTL;obtain⟨sv1,hsv1⟩:∃ s:Sv,(⟨cutA (some ad) cc 1 97,n - 1,cc - 1⟩:Sv)=s:=⟨_,rfl⟩;have HS1:Hid (Value.slice (cutA (some ad) cc 1 97) (n - 1) (cc - 1)=sv1.v):=hZ (by rw[← hsv1];rfl);rw[hsv1] at HTL;clear hA hrd0 hB hn hc hsv1;obtain⟨w0,rfl,HL⟩:=lS w;go_enter func141,ntmps141;go_upto_region 0 with fail;refine Xt ?_;refine X5o ?_;clear HL;intro g8 w HL;refine X1a ?_;go_upto_region 1 with fail;refine Xko ?_;refine X3c ?_;intro HL;refine Xkp ?_;refine X6 ?_;refine Xkq ?_;refine X3g ?_;refine Xkr ?_;refine Xks ?_;intro K hK;clear HL;intro g10 w HX;refine Xkt ?_;intro HL;refine X3y ?_;clear hK K;intro K hK;refine Xku ?_
   clear HL HX;intro w HX;simp only[qg,qh] at HX;refine Xkt ?_;intro HL;refine Xcx ?_;clear hK K;clear HL;have HL:=HX;clear HX;rw[HS1.out];go_upto_region 2 with fail;refine Xg1 ?_;subst hb0;go_upto_region 3 with fail;refine Xt ?_;refine Xkw ?_;go_upto_region 5 with fail;refine Xt ?_;refine Xkw ?_;go_upto_region 7 with fail;refine Xt ?_;refine Xkw ?_;have CA:=CA0 sv1 HTL.out;clear CA0;obtain⟨b2,hb2⟩:∃ b2,(⟨2,D32.z,D32.z,D32.z⟩:Brv).cells=b2:=⟨_,rfl⟩;rw[hb2] at HL;clear hb2 HR HTL HS1 HSV;go_upto_region 10 with fail;refine X2j ?_;intro K hK;refine xad cf205 rfl _ rfl ?_;refine X1w ?_;(with_reducible refine((CP _ HL.below).out).mono ?_);refine X7u ?_;clear hK K;intro w HL;go_upto_region 11 with fail
   go_cut [11,15] from 17 (fun vv vp wx=>∃ (sv2:Sv)(g15:Nat),vv=sv2.v∧vp=.pointer (some ⟨g15,0,none⟩)∧BrS v sv2 rest2∧Loc w0 (Old w0) [(g15,23,da.c),(g10,124,b2),(g8,23,D32.z.c)] wx)
   case first =>
    refine rB (Loc.P HL) [] [9,13,14] [0,1,2,3,4,5,6,7,8] 7 ?_;refine X8x ?_;intro HL;refine Xk7 ?_;refine X71 ?_;refine Xk8 ?_;refine X3g ?_;refine xab rfl rfl HL (fun W hW=>xa6 _ _ rfl _ _ _ rfl rfl HD1.out (by have:=HD.out;omega)) ?_;refine Xbk ?_;refine X4 ?_;refine⟨⟨rfl,?_⟩,⟨rfl,?_⟩,trivial⟩
    ·intro K hK
     refine Xkx ?_;(with_reducible refine((CA _ HL.below).out).mono ?_);rintro e w ⟨sv2,rfl,hps,hb⟩;have HP2:=hZ hps
     first
     | (have HZ:=HX.next hb)
     | (have HZ:=HL.next hb)
     clear HL hb hps;(try clear HX);have HX:=HZ;clear HZ
     have HL:Loc w0 (Old w0) [(g10,124,b2),(g8,23,D32.z.c)] w:=by
      first
      | exact HX
      | exact HX.drop _ (sB _ _)
     refine X5v ?_;clear hK K;refine xbk [10,11,12,13,14,15] 0 (by kernel_rfl) ?_;refine X4 ?_;refine X3b ?_;refine X5z ?_;refine X5y ?_;refine Xh ?_;intro K hK
     first
     | refine xcj zr23 rfl HX ?_
     | refine xcj zr23 rfl HL ?_
     clear HL;(try clear HX);intro g15 w HX;refine Xky ?_;intro HL;refine X3y ?_;clear hK K;intro K hK;refine xe4 ag23 _ _ rfl HX 0 g15 23 _ _ rfl rfl rfl (D32.cl _) (D32.cl _) (D32.c1 _) ?_;clear HL HX;intro w HX;simp only[qg,qh] at HX;refine Xky ?_;intro HL;refine Xcx ?_;clear hK K;go_wp2_with fail;go_meet
     case rel=>exact⟨sv2,g15,rfl,rfl,HP2.out,HX⟩
    ·intro K hK
     first
     | refine xcj zr23 rfl HX ?_
     | refine xcj zr23 rfl HL ?_
     clear HL;(try clear HX);intro g15 w HX;refine Xky ?_;intro HL;refine X3x ?_;clear hK K;refine xbk [9,10,11,12,14,15] 0 (by kernel_rfl) ?_;refine Xbl ?_;intro K hK;refine Xkx ?_;(with_reducible refine((CA _ HL.below).out).mono ?_);rintro e w ⟨sv2,rfl,hps,hb⟩;have HP2:=hZ hps
     first
     | (have HZ:=HX.next hb)
     | (have HZ:=HL.next hb)
     clear HL hb hps;(try clear HX);have HX:=HZ;clear HZ
     have HL:Loc w0 (Old w0) [(g10,124,b2),(g8,23,D32.z.c)] w:=by
      first
      | exact HX
      | exact HX.drop _ (sB _ _)
     refine X7d ?_;clear hK K;refine X5z ?_;refine X5y ?_;refine Xh ?_;intro K hK;refine xe4 ag23 _ _ rfl HX 0 g15 23 _ _ rfl rfl rfl (D32.cl _) (D32.cl _) (D32.c1 _) ?_;clear HL HX;intro w HX;simp only[qg,qh] at HX;refine Xky ?_;intro HL;refine Xcx ?_;clear hK K;go_wp2_with fail;go_meet
     case rel=>exact⟨sv2,g15,rfl,rfl,HP2.out,HX⟩
   case rest =>
    clear HL;obtain⟨sv2,g15,rfl,rfl,hp2,HL⟩:=hcut;obtain⟨w,rfl⟩:=eW wc;have HP2:=hZ hp2;clear hp2;go_upto_region 12 with fail;refine rB (Loc.P HL) [] [9,13,14] [0,1,2,3,4,5,6,7,8] 7 ?_;refine X8x ?_;intro HL;refine Xk9 ?_;refine X71 ?_;refine Xka ?_;refine X3g ?_;refine xab rfl rfl HL (fun W hW=>xa6 _ _ rfl _ _ _ rfl rfl HD1.out (by have:=HD.out;omega)) ?_;refine Xbk ?_;refine X4 ?_;refine⟨⟨rfl,?_⟩,⟨rfl,?_⟩,trivial⟩
    ·intro K hK
     refine Xkx ?_;(with_reducible refine(((CB sv2 HP2.out) _ HL.below).out).mono ?_);rintro e w ⟨sv3,rfl,hps,hb⟩;have HP3:=hZ hps
     first
     | (have HZ:=HX.next hb)
     | (have HZ:=HL.next hb)
     clear HL hb hps;(try clear HX);have HX:=HZ;clear HZ
     have HL:Loc w0 (Old w0) [(g15,23,da.c),(g10,124,b2),(g8,23,D32.z.c)] w:=by
      first
      | exact HX
      | exact HX.drop _ (sB _ _)
     refine X5v ?_;clear hK K;refine xbk [10,11,12,13,14,15] 0 (by kernel_rfl) ?_;refine X4 ?_;refine X3b ?_;refine X5z ?_;refine X5y ?_;refine Xh ?_;intro K hK
     first
     | refine xcj zr23 rfl HX ?_
     | refine xcj zr23 rfl HL ?_
     clear HL;(try clear HX);intro g16 w HX;refine Xkz ?_;intro HL;refine X3y ?_;clear hK K;intro K hK;refine xe4 ag23 _ _ rfl HX 0 g16 23 _ _ rfl rfl rfl (D32.cl _) (D32.cl _) (D32.c1 _) ?_;clear HL HX;intro w HX;simp only[qg,qh] at HX;refine Xkz ?_;intro HL;refine Xcx ?_;clear hK K;clear HL;have HL:=HX;clear HX;go_upto_region 13 with fail;refine Xt ?_;refine Xl0 ?_;refine X6 ?_;refine Xl1 ?_;refine X50 ?_;intro K hK;refine Xkb ?_;refine X45 ?_;clear hK K;intro w HL;refine Xl2 ?_;refine X2p ?_;clear HL;intro w HL;refine X10 ?_;go_wp2_with fail;refine Xc ?_;refine Xl3 ?_;exact⟨sv3,rfl,HP3.out,HL.below⟩
    ·intro K hK
     first
     | refine xcj zr23 rfl HX ?_
     | refine xcj zr23 rfl HL ?_
     clear HL;(try clear HX);intro g16 w HX;refine Xkz ?_;intro HL;refine X3x ?_;clear hK K;refine xbk [9,10,11,12,14,15] 0 (by kernel_rfl) ?_;refine Xbl ?_;intro K hK;refine Xkx ?_;(with_reducible refine(((CB sv2 HP2.out) _ HL.below).out).mono ?_);rintro e w ⟨sv3,rfl,hps,hb⟩;have HP3:=hZ hps
     first
     | (have HZ:=HX.next hb)
     | (have HZ:=HL.next hb)
     clear HL hb hps;(try clear HX);have HX:=HZ;clear HZ
     have HL:Loc w0 (Old w0) [(g15,23,da.c),(g10,124,b2),(g8,23,D32.z.c)] w:=by
      first
      | exact HX
      | exact HX.drop _ (sB _ _)
     refine X7d ?_;clear hK K;refine X5z ?_;refine X5y ?_;refine Xh ?_;intro K hK;refine xe4 ag23 _ _ rfl HX 0 g16 23 _ _ rfl rfl rfl (D32.cl _) (D32.cl _) (D32.c1 _) ?_;clear HL HX;intro w HX;simp only[qg,qh] at HX;refine Xkz ?_;intro HL;refine Xcx ?_;clear hK K;clear HL;have HL:=HX;clear HX;go_upto_region 13 with fail;refine Xt ?_;refine Xl0 ?_;refine X6 ?_;refine Xl1 ?_;refine X50 ?_;intro K hK;refine Xkb ?_;refine X45 ?_;clear hK K;intro w HL;refine Xl2 ?_;refine X2p ?_;clear HL;intro w HL;refine X10 ?_;go_wp2_with fail;refine Xc ?_;refine Xl3 ?_;exact⟨sv3,rfl,HP3.out,HL.below⟩
end
theorem risK_iff{ks:List D32}(h:RisK ks):RiseK ks:=fun i hi=>by
 have:=(List.pairwise_iff_getElem.1 h) i (i+1) (by omega) hi (by omega);unfold cmpZ;rw[if_pos this];decide
theorem xvo{es:List Ent}(h:Rise es):RisK (es.map Prod.fst):=List.pairwise_map.2 h
def FlO(x:D32)(w:World)(e:Ending)(w':World):Prop:=e=.returned (.tuple #[x.a,iV 0])∧Bw w w'
structure FlI (w:World)(t:Tre)(es:List Ent)(A:Option Addr)(m c:Nat)(ps vv:Sv):Prop where
 ok:t.Ok 0
 ri:Rise es
 vl:∀ p∈es,p.2.length≤1024
 ky:KyS w A m c (es.map Prod.fst)
 bs:BrS w ps (skT t (es.map Prod.fst) 0)
 tx:TxR 0 w vv (es.map Prod.snd)
 m8:m≤8
theorem FlI.below{w w':World}{t:Tre}{es:List Ent}{A:Option Addr}{m c:Nat}{ps vv:Sv}(h:FlI w t es A m c ps vv)(hb:Bw w w'):FlI w' t es A m c ps vv:=⟨h.ok,h.ri,h.vl,h.ky.below hb,h.bs.below hb,h.tx.below hb,h.m8⟩
theorem FlI.quick{w:World}{t:Tre}{es:List Ent}{A:Option Addr}{m c:Nat}{ps vv:Sv}(h:FlI w t es A m c ps vv):rdQ (es.map Prod.fst) (skT t (es.map Prod.fst) 0)=some t.dg :=
 sk_quick _ t h.ok ((xiy _).2 (risK_iff (xvo h.ri))) (by rw[h.ky.len];exact h.m8)
section
variable {w w':World}
theorem xru(t:Tre)(es:List Ent)(A:Option Addr)(m c:Nat)(ps vv:Sv)(hI:FlI w t es A m c ps vv):Calls prog 88 #[.slice A m c,mval ps,vv.v] w (FlO (updT 256 0 t es).dg w):=by
 have HI:=hZ hI;have hm8:=hI.m8;have hvn:vv.n=m:=by have h1:=hI.tx.len;have h2:=hI.ky.len;rw[List.length_map] at h1 h2;omega
 have HVN:=hZ hvn;obtain⟨ls,hls⟩:∃ ls,es.map Prod.snd=ls:=⟨_,rfl⟩;have HLS:=hZ hls;have HLL:Hid (ls.length=m):=hZ (by rw[← hls,hI.tx.len,hvn]);have HTX:Hid (TxR 0 w vv ls):=hZ (by rw[← hls];exact hI.tx)
 have HVL:Hid (∀ l∈ls,l.length≤1024):=hZ (by
  rw[← hls];intro l hl;obtain⟨p,hp,rfl⟩:=List.mem_map.1 hl
  exact hI.vl p hp)
 have CQ:∀ u,Bw w u→Hid (Calls prog 140 #[.slice A m c,mval ps] u (oB u (iV 0))):=fun u hu=>hZ (xqc A m c _ ps _ u (HI.out.ky.below hu) (HI.out.bs.below hu) (by omega) t.dg HI.out.quick)
 have k4:((m:Int) != (m:Int))=false:=by simp
 obtain⟨dx,hdx⟩:∃ x,(updT 256 0 t es).dg=x:=⟨_,rfl⟩;rw[hdx];have HDX:=hZ hdx;clear hI hls hvn hdx;obtain⟨w0,rfl,HL⟩:=lS w;go_enter func88,ntmps88;go_upto_region 0 with fail;refine Xt ?_;refine xcs rfl _ rfl HL _ rfl ?_;clear HL;intro g4 w HL;refine X6 ?_;refine xah zr23 rfl rfl HL ?_;clear HL;intro g6 w HL;refine X1a ?_;go_upto_region 1 with fail;refine X12 ?_;refine Xjv ?_;refine X50 ?_;intro K hK;refine xad cf140 rfl _ rfl ?_;refine X1w ?_;(with_reducible refine((CQ _ HL.below).out).mono ?_);refine X7u ?_;clear hK K;intro w HL;go_upto_region 2 with fail;refine Xew ?_;go_upto_region 4 with fail;refine Xl4 ?_;refine X15 ?_;refine xaa rfl _ (xam underlying26 _ rfl ⟨A,m,c⟩ m rfl rfl) ?_;refine X6 ?_;refine xaa rfl _ (xa9 (b:=false) _ _ rfl _ _ rfl rfl (by simp)) ?_;refine X1z ?_
 go_upto_region 6 with fail;refine X1j ?_;go_upto_region 7 with fail;refine Xl4 ?_;refine X1e ?_;go_wp2_with fail
 go_loopw [9,29] (fun v z wr=>∃ (i:Nat)(G:BL)(so:Sv),v=so.v∧z=.int .i64 (i:Int)∧i≤m∧Gw 23 32 G so i (((ls.take i).map tagV).flatMap D32.c)∧Loc w0 (Old w0) ((g6,23,D32.z.c)::(g4,44,[ps.v])::(G++[])) wr) (fun _ z _=>(m - intOf z).toNat)
 case atStart=>exact⟨0,[],Sv.nil,rfl,rfl,Nat.zero_le _,Gw.nil 23 32,HL⟩
 case round =>
  clear HL;obtain⟨i,G,so,rfl,rfl,hin,hG,HL⟩:=hrel;obtain⟨w,rfl⟩:=eW wr;by_cases hlt:i<m
  ·have k8:decide ((i:Int)<(m:Int))=true:=by simp;omega
   refine Xb1 ?_;intro HI1;have hix:i<ls.length:=by rw[HLL.out];exact hlt
   obtain⟨ad,s,hA,_,hr1,htx,_⟩:=HTX.out.at_ i hix;have HSV:Hid (vv.v=.slice (some ad) m vv.c):=hZ (by have h1:=HVN.out;rw[Sv.v,hA,h1]);have HRD:Hid (Rd w (some (ad.add (i*1))) [Sv.v s]):=hZ (hr1.below HL.below)
   have hle:(ls.getD i []).length≤1024:=by
    have:ls.getD i []=ls[i]:=by simp[List.getD,hix]
    rw[this];exact HVL.out _ (List.getElem_mem hix)
   have HTK:Hid (((ls.take (i+1)).map tagV).flatMap D32.c=((ls.take i).map tagV).flatMap D32.c++(tagV (ls.getD i [])).c):=hZ (by
    have:ls.getD i []=ls[i]:=by simp[List.getD,hix]
    rw[this,List.take_succ_eq_append_getElem hix,List.map_append,List.flatMap_append];simp)
   have hsn:=htx.len;have CV:∀ u,Bw w u→Hid (Calls prog 42 #[s.v] u fun e w'=>e=.returned (tagV (ls.getD i [])).a∧Bw u w'):=fun u hu=>hZ (xjn (w:=u) s.A s.n s.c _ ((htx.below HL.below).below hu).rd htx.len htx.cap htx.max (by omega))
   have k10:decide ((1024:Int)<(s.n:Int))=false:=by simp;omega
   generalize tagV (ls.getD i [])=dg at CV HTK;clear hA hr1 htx hsn;go_upto_region 8 with fail;refine Xt ?_;refine xaa rfl _ (xax _ _ rfl _ _ rfl rfl k8) ?_;refine X1z ?_;go_upto_region 9 with fail;refine Xt ?_;refine xaa rfl _ (xaz sl50 (.tmp 27) _ rfl ad m vv.c i .i64 HSV.out rfl hlt) ?_;refine X6 ?_;refine Xk0 ?_;refine X1a ?_;go_upto_region 10 with fail;refine X12 ?_;refine xaa rfl _ (xam underlying25 _ rfl s s.n rfl rfl) ?_;refine X6 ?_;refine Xk1 ?_;go_upto_region 12 with fail;refine X2j ?_;intro K hK;refine X5n ?_;(with_reducible refine((CV _ (Below.refl _ _)).out).mono ?_);refine X4y ?_;clear hK K;intro w HL;refine xb2 sl29 el23 (by decide) rfl _ rfl HL _ rfl (D32.cl _) ?_;clear HL;intro g40 w HL;refine X50 ?_;intro K hK
   refine xan sl29 el23 _ _ rfl [_,_,_] i so _ hG HL rfl ⟨g40,0,none⟩ 1 1 dg.c rfl (Rd.of_blk0 (es:=[]) (by rw[List.append_nil];exact HL.blk (.head _))) (D32.cl _) (D32.c1 _) (by decide) (by omega) (by omega) ?_;clear HL hG;intro so' G' w hG HL;refine Xaa ?_;clear hK K;have HLd:=HL.drop ((g6,23,D32.z.c)::(g4,44,[ps.v])::(G'++[])) (sB _ _);clear HL;have HL:=HLd;clear HLd;go_upto_region 13 with fail;refine Xt ?_;refine Xb6 ?_;refine X1e ?_;go_wp2_with fail;go_roundw
   case rel=>exact⟨i+1,G',so',rfl,rfl,by omega,by rw[HTK.out];exact hG,HL⟩
   case measure=>simp[intOf]<;>omega
  ·have k8:decide ((i:Int)<(m:Int))=false:=by simp;omega
   have hie:i=m:=by omega
   subst hie;rw[List.take_of_length_le (by rw[HLL.out];exact Nat.le_refl _)] at hG;have hrd:=hG.rd (L0:=[(g6,23,D32.z.c),(g4,44,[ps.v])]) (L1:=[]) HL;have hsl:Hid (so.v=.slice so.A i so.c):=hZ (by unfold Sv.v;rw[hG.len])
   have hen:EnS w A so.A i c so.c es:=⟨HI.out.ky.below HL.below,⟨by
    have:(es.map fun p=>tagV p.2)=ls.map tagV:=by rw[← HLS.out,List.map_map];rfl
    rw[this];exact hrd,by rw[List.length_map];have:=HI.out.ky.len;rw[List.length_map] at this;exact this,by have:=hG.cap.1;rw[hG.len] at this;exact this⟩⟩
   have CN:Hid (Calls prog 141 #[ps.v,.slice A i c,so.v,iV 0] w (NxO w dx [] w)):=hZ (by
    rw[hsl.out,← HDX.out]
    exact next_any t w w 256 0 es A so.A i c so.c ps [] ⟨rfl,HI.out.ok,HI.out.ri,fun _ _ _ _ e he=>absurd he (Nat.not_lt_zero _),fun _ _ _ _ e he=>absurd he (Nat.not_lt_zero _),HI.out.vl,hen,by omega,Below.refl _ _⟩ (by rw[List.append_nil];exact HI.out.bs.below HL.below))
   clear hrd hen hsl hG;have HL2:=HL.drop [(g6,23,D32.z.c),(g4,44,[ps.v])] (by simp);clear HL;have HL:=HL2;clear HL2;go_upto_region 8 with fail;refine Xt ?_;refine xaa rfl _ (xax _ _ rfl _ _ rfl rfl k8) ?_;refine X1z ?_;go_upto_region 14 with fail;refine Xt ?_;refine xaa rfl _ (xaf xna _ rfl _ rfl) ?_;refine X6 ?_;refine xaa rfl _ (xai sc42 HL _ rfl g4 0 rfl 44 _ _ (.tail _ (.head _)) rfl) ?_;refine Xee ?_;intro K hK;refine Xkx ?_;(with_reducible refine(CN.out).mono ?_);rintro e w ⟨sv9,rfl,_,hb⟩;replace HL:=HL.next hb;clear hb;refine X54 ?_;clear hK K;refine Xit ?_;clear HL;intro g12 w HL;refine Xia ?_;clear HL;intro w HL;go_upto_region 15 with fail;refine Xt ?_;refine Xjg ?_;refine X6 ?_;refine Xj5 ?_;clear HL;intro w HL;go_wp2_with fail;refine Xc ?_
   refine bodyPost_ret (xay rfl ag23 _ _ g6 23 _ rfl (HL.blk (.tail _ (.head _))) (D32.cl _)) rfl ?_;exact⟨rfl,HL.below⟩
theorem xrv(t:Tre)(es:List Ent)(A:Option Addr)(m c:Nat)(ps vv:Sv)(hI:FlI w t es A m c ps vv):Calls prog 33 #[t.dg.a,.slice A m c,mval ps,vv.v] w (FlO (updT 256 0 t es).dg w):=by
 have HI:=hZ hI;have hm8:=hI.m8;have CN:∀ u,Bw w u→Hid (Calls prog 88 #[.slice A m c,mval ps,vv.v] u (FlO (updT 256 0 t es).dg u)):=fun u hu=>hZ (xru t es A m c ps vv (HI.out.below hu))
 have CM:∀ u,Bw w u→Hid (Calls prog 10 #[.slice A m c,mval ps] u (oB u (.tuple #[t.dg.a,iV 0]))):=fun u hu=>hZ ((xrq A m c _ ps _ u (HI.out.ky.below hu) (HI.out.bs.below hu) (by omega)).mono (by
  rintro e w' ⟨h,er,rfl,hb,⟨rfl,hq⟩ | ⟨_,hq⟩⟩
  ·rw[HI.out.quick] at hq
   rw[← Option.some.inj hq];exact⟨rfl,hb⟩
  ·rw[HI.out.quick] at hq;cases hq))
 generalize (updT 256 0 t es).dg=dx at CN ⊢;generalize t.dg=dt at CM ⊢;clear hI HI;obtain⟨w0,rfl,HL⟩:=lS w;go_enter func33,ntmps33;go_upto_region 0 with fail;refine Xt ?_;refine xcs rfl _ rfl HL _ rfl ?_;clear HL;intro g4 w HL;refine X6 ?_;refine X85 ?_;clear HL;intro g6 w HL;refine X6 ?_;refine X5o ?_;clear HL;intro g8 w HL;refine X1a ?_;go_upto_region 1 with fail;refine X12 ?_;refine Xjv ?_;refine X42 ?_;intro K hK;refine xad cf88 rfl _ rfl ?_;refine X1w ?_;(with_reducible refine((CN _ HL.below).out).mono ?_);refine X4a ?_;clear hK K;intro w HL;refine xah zr23 rfl rfl HL ?_;clear HL;intro g10 w HL;refine Xia ?_;clear HL;intro w HL;go_upto_region 2 with fail;refine Xew ?_;go_upto_region 4 with fail;refine X12 ?_;refine xaa rfl _ (xbn ag44 HL _ rfl _ rfl _ _ (.tail _ (.tail _ (.head _))) rfl) ?_
 refine X50 ?_;intro K hK;refine xad cf10 rfl _ rfl ?_;refine X1w ?_;(with_reducible refine((CM _ HL.below).out).mono ?_);refine X4a ?_;clear hK K;intro w HL;refine Xit ?_;clear HL;intro g12 w HL;refine Xia ?_;clear HL;intro w HL;go_upto_region 5 with fail;refine Xt ?_;refine Xjg ?_;refine X6 ?_;refine xaa rfl _ (xbn ag23 HL _ rfl _ rfl _ _ (.tail _ (.tail _ (.tail _ (.tail _ (.head _))))) (D32.cl _)) ?_;refine X6 ?_;refine xaa rfl _ (xkv ab25 _ _ rfl dt dt rfl rfl false (by simp)) ?_;refine X1z ?_;go_upto_region 7 with fail;refine Xt ?_;refine xaa rfl _ (xbn ag23 HL _ rfl _ rfl _ _ (.tail _ (.head _)) (D32.cl _)) ?_;refine Xji ?_;refine X4c ?_;clear HL;intro w HL;go_wp2_with fail;refine Xc ?_;refine bodyPost_ret (xay rfl ag23 _ _ g8 23 _ rfl (HL.blk (.tail _ (.tail _ (.head _)))) (D32.cl _)) rfl ?_
 exact⟨rfl,HL.below⟩
end
section
variable {P:Program}{T E b:Nat}{zv:Value}{w0 w:World}{D:Nat→Prop}{L:BL}{o:Oper}{rest:List Oper}{ops:Array Oper}{a:Act}{Q:Exit→Act→World→Prop}
theorem xrw(B:ST P T E 1)(I:ET P E zv 1 b)(hgd:o.guard=none)(x y:Operand)(ho:o.op=.buildSlice T 2 #[(0,x),(1,y)])(H:Loc w0 D L w)(p q:Int)(hx:a.eval x=.int .u8 p)(hy:a.eval y=.int .u8 q)
  (h:∀ g w',Loc w0 D ((g,E,[Value.int .u8 p,Value.int .u8 q])::L) w'→wpList P ops Q rest (a.put o.dst (.slice (aS g) 2 2)) w'):wpList P ops Q (o::rest) a w:=by
 obtain⟨i,hi,hzz,hsz,_⟩:=info_parts I.i;have hp:=I.p;refine X1 ?_;intro K hK;refine wp_buildSlice T E 2 _ ho ([Value.int .u8 p,Value.int .u8 q]).toArray i _ B.t hi hzz (by rw[hsz];omega) (by rw[hsz];omega) ?_ (hK _ _ (h _ _ (H.new E [Value.int .u8 p,Value.int .u8 q])));have h2:((#[(0,x),(1,y)]:Array (Nat×Operand)).map fun(i,x)=>(i,a.eval x)).toList=(([.int .u8 p,.int .u8 q]:List Value).zipIdx 0).map fun x=>(x.2,x.1):=by simp[hx,hy]
 rw[h2,hsz,Great.fill_whole hp _ _ ?_ ?_]
 ·simp[Value.cells]
 ·intro u hu
  simp at hu;rcases hu with rfl | rfl<;>simp[Value.cells]
 ·simp
end
theorem xrx{P:Program}{w:World}{a:Act}{o:Oper}{t t':TypeId}(x y:Operand)(ho:o.op=.binOp .rem t x y t')(n k m:Nat)(hx:a.eval x=iV n)(hy:a.eval y=iV k)(hn:n≤9223372036854775807)(hk:0<k)(hk2:k≤9223372036854775807)(hm:n%k=m) :
  (execOp a.eval o).run P w=.ok (.value (iV m)) w:=by
 have h0:((k:Int)==0)=false:=by simp;omega
 unfold execOp;simp only[ho,hx,hy];go_simp;rw[Int.tmod_eq_emod_of_nonneg (by omega)];subst hm;have hlt:=Nat.mod_lt n hk;rw[← Int.natCast_emod];rw[if_neg (by omega)]
theorem ups_none(t:Tre)(h:t.Ok 0):UpS 0 t [] t:=⟨h,fun p=>by simp⟩
theorem ups_put{t t1 t2:Tre}{fs:List Ent}{k:D32}{cv:LU}(h:UpS 0 t fs t1)(hs:SpK 0 t1 k (some cv) t2)(hn:k∉fs.map Prod.fst):UpS 0 t (fs++[(k,cv)]) t2:=by
 refine⟨hs.ok,fun p=>?_⟩;obtain⟨k',v⟩:=p;rw[hs.ent,h.sp];simp only[List.mem_append,List.mem_singleton,Prod.mk.injEq,List.map_append,qk,ql,Option.some.injEq,not_or];constructor
 ·rintro(⟨rfl,rfl⟩ | ⟨h1,h2 | ⟨h2,h3⟩⟩)
  ·exact .inl (.inr ⟨rfl,rfl⟩)
  ·exact .inl (.inl h2)
  ·exact .inr ⟨⟨h2,h1⟩,h3⟩
 ·rintro((h1 | ⟨rfl,rfl⟩) | ⟨⟨h1,h2⟩,h3⟩)
  ·refine .inr ⟨fun e=>hn ?_,.inl h1⟩
   subst e;exact List.mem_map.2 ⟨_,h1,rfl⟩
  ·exact .inl ⟨rfl,rfl⟩
  ·exact .inr ⟨h2,.inr ⟨h1,h3⟩⟩
theorem ups_perm{t t':Tre}{fs es:List Ent}(h:UpS 0 t fs t')(hp:fs.Perm es):UpS 0 t es t':=⟨h.ok,fun p=>by rw[h.sp,hp.mem_iff,(hp.map Prod.fst).mem_iff]⟩
theorem ups_end{t t':Tre}{fs es:List Ent}(h:UpS 0 t fs t')(hp:fs.Perm es)(ht:t.Ok 0)(hr:Rise es)(hv:∀ p∈es,p.2.length≤1024):t'=updT 256 0 t es :=
 upd_uniq (ups_perm h hp) (xrr t 256 0 es rfl ht hr (fun _ _ _ _ e he=>absurd he (Nat.not_lt_zero _)) (fun _ _ _ _ e he=>absurd he (Nat.not_lt_zero _)) hv)
def VaX(we:World)(GV:BL)(s:Sv)(l:LU):Prop:=Tx we s.A s.n s.c l∨∃ g,s=⟨aS g,2,2⟩∧(g,5,bvs l)∈GV∧l.length=2
theorem VaX.mono{we:World}{GV GW:BL}{s:Sv}{l:LU}(h:VaX we GV s l)(hm:∀ x∈GV,x∈GW):VaX we GW s l:=h.imp id fun⟨g,h1,h2,h3⟩=>⟨g,h1,hm _ h2,h3⟩
theorem VaX.tx{we w0 w:World}{D:Nat→Prop}{GV L:BL}{s:Sv}{l:LU}(h:VaX we GV s l)(hb:Bw we w)(H:Loc w0 D L w)(hm:∀ x∈GV,x∈L):Tx w s.A s.n s.c l:=by
 rcases h with h | ⟨g,rfl,h2,h3⟩
 ·exact h.below hb
 ·exact⟨h3,Nat.le_refl _,by unfold maxLen;show(2:Nat)≤_;omega,Rd.of_blk0 (es:=[]) (by rw[List.append_nil];exact H.blk (hm _ h2)),fun _ _ h=>h⟩
abbrev PaL:=List (Par×LU)
def xc8(el:PaL):List Ent:=el.map fun x=>(x.1.key,x.2)
structure ElI (we:World)(GV:BL)(ks:List D32)(i:Nat)(el:PaL):Prop where
 ks:(el.map fun x=>x.1.key)=ks.take i
 vx:∀ x∈el,VaX we GV x.1.val x.2∧x.2.length≤1024
theorem ElI.snoc{we:World}{GV GW:BL}{ks:List D32}{i:Nat}{el:PaL}{s:Sv}{l:LU}(h:ElI we GV ks i el)(hi:i<ks.length)(hm:∀ x∈GV,x∈GW)(hv:VaX we GW s l)(hl:l.length≤1024):ElI we GW ks (i+1) (el++[(⟨ks[i],s⟩,l)]):=by
 refine⟨?_,fun x hx=>?_⟩
 ·rw[List.map_append,h.ks,List.take_succ_eq_append_getElem hi];rfl
 ·rcases List.mem_append.1 hx with hx | hx
  ·exact⟨(h.vx x hx).1.mono hm,(h.vx x hx).2⟩
  ·rw[List.mem_singleton.1 hx];exact⟨hv,hl⟩
theorem ElI.txr{we w0 w:World}{D:Nat→Prop}{G GV L:BL}{ks:List D32}{i n:Nat}{el:PaL}{sv:Sv}(h:ElI we GV ks i el)(hb:Bw we w)(H:Loc w0 D L w)(hm:∀ x∈GV,x∈L)(hr:Rd w sv.A (el.map fun x=>x.1.val.v))(hn:el.length=sv.n)(hc:sv.n≤sv.c):TxR 0 w sv (el.map Prod.snd):=by
 refine⟨⟨el.map fun x=>x.1.val,by rw[List.map_map];exact hr,by simp,fun i v l hv hl=>?_⟩,fun _ _=>Nat.zero_le _,by rw[List.length_map,hn],hc⟩;rw[List.getElem?_map] at hv hl
 cases hx:el[i]? with
 | none=>rw[hx] at hv;cases hv
 | some x =>
  rw[hx] at hv hl;simp only[Option.map_some,Option.some.injEq] at hv hl;subst hv hl;exact⟨(h.vx x (List.mem_of_getElem? hx)).1.tx hb H hm,fun _ _=>Nat.zero_le _⟩
theorem ElI.fst{we:World}{GV:BL}{ks:List D32}{i:Nat}{el:PaL}(h:ElI we GV ks i el)(hi:ks.length≤i):(xc8 el).map Prod.fst=ks:=by
 have:=h.ks;rw[List.take_of_length_le hi] at this;rw[← this];unfold xc8;rw[List.map_map];rfl
theorem ElI.rise{we:World}{GV:BL}{ks:List D32}{i:Nat}{el:PaL}(h:ElI we GV ks i el)(hi:ks.length≤i)(hr:RisK ks):Rise (xc8 el):=by
 unfold RisK at hr;rw[← h.fst hi,List.pairwise_map] at hr;exact hr
theorem ElI.len{we:World}{GV:BL}{ks:List D32}{i:Nat}{el:PaL}(h:ElI we GV ks i el):el.length=min i ks.length:=by
 have:=congrArg List.length h.ks;rw[List.length_map,List.length_take] at this;exact this
theorem swap_par(el:PaL)(a b:Nat)(ha:a<el.length)(hb:b<el.length):((el.set a el[b]).set b el[a]).Perm el:=List.set_set_perm ha hb
theorem swap_map(el:PaL)(a b:Nat)(x y:Par×LU):(((el.set a y).set b x).map Prod.fst)=((el.map Prod.fst).set a y.1).set b x.1:=by rw[List.map_set,List.map_set]
theorem Stp.below{S S':Nat→Prop}{w w':World}{n:Nat}(h:Stp S w S' w')(hS:∀ k,S k→n≤k)(hn:n≤w.heap.size):Below n w w':=⟨h.fr.os,h.fr.tape,h.fr.output,h.fr.size,fun k hk=>h.fr.block k (by omega) (fun s=>by have:=hS k s;omega)⟩
end Go.Proofs.YtkjjdgnkelchfaaGreat
