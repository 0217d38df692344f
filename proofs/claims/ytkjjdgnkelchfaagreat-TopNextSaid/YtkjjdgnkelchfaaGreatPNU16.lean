import Derived.Test.YtkjjdgnkelchfaaGreatPNU15
set_option linter.unusedSimpArgs false
set_option linter.unusedVariables false
set_option maxRecDepth 100000
set_option maxHeartbeats 16000000
namespace Go.Proofs.YtkjjdgnkelchfaaGreat
open Go Go.RowKit Go.Proofs.Tryz
structure Rw where
 key:Sv
 gone:Bool
 val:Sv
def Rw.cells(x:Rw):List Value:=[x.key.v,.bool x.gone,x.val.v]
theorem Rw.len(x:Rw):x.cells.length=3:=rfl
theorem Rw.one(x:Rw):∀ u∈x.cells,u.oneCell'=true:=by
 intro u hu;simp only[Rw.cells,List.mem_cons,List.not_mem_nil,or_false] at hu;rcases hu with rfl | rfl | rfl<;>rfl
def Rw.z:Rw:=⟨Sv.nil,false,Sv.nil⟩
theorem Rw.g_key(x:Rw):x.cells[0]? = some x.key.v:=rfl
theorem Rw.g_gone(x:Rw):x.cells[1]? = some (Value.bool x.gone):=rfl
theorem Rw.g_val(x:Rw):x.cells[2]? = some x.val.v:=rfl
theorem zr80w:ZA prog 80 Rw.z.cells:=⟨.agg Rw.z.cells.toArray,by kernel_rfl,rfl⟩
structure RE where
 r:Rw
 k:LU
 v:LU
structure RawT (D:Nat→Prop)(w:World)(A:Option Addr)(n c:Nat)(rs:List RE):Prop where
 rd:Rd w A ((rs.map RE.r).flatMap Rw.cells)
 len:rs.length=n
 cap:n≤c
 kt:∀ e∈rs,Tx w e.r.key.A e.r.key.n e.r.key.c e.k
 vt:∀ e∈rs,Tx w e.r.val.A e.r.val.n e.r.val.c e.v
 dv:∀ e∈rs,e.v≠[]→∀ ad,e.r.val.A=some ad→¬ D ad.block
theorem RawT.at_{D:Nat→Prop}{w:World}{A:Option Addr}{n c:Nat}{rs:List RE}(h:RawT D w A n c rs)(i:Nat)(hi:i<rs.length):∃ ad,A=some ad∧Rd w (some (ad.add (i*3))) rs[i].r.cells:=by
 have hl:(rs.map RE.r).length=rs.length:=by simp
 obtain⟨ad,e,_⟩:=h.rd (by rw[xaw Rw.len];omega);refine⟨ad,e,?_⟩;have h2:=h.rd.cut (i*3) 3;rw[e] at h2;have h3:=xcb (f:=Rw.cells) Rw.len (rs.map RE.r) [] i (by omega);rw[List.append_nil] at h3;rw[h3,List.getElem_map] at h2;exact h2
theorem RawT.below{D:Nat→Prop}{w w':World}{A:Option Addr}{n c:Nat}{rs:List RE}(h:RawT D w A n c rs)(hb:Bw w w'):RawT D w' A n c rs :=
 ⟨h.rd.below hb,h.len,h.cap,fun e he=>(h.kt e he).below hb,fun e he=>(h.vt e he).below hb,h.dv⟩
def keyD(l:LU):D32:=if h:l.length=32 then ⟨l,h⟩ else D32.z
theorem xn0{l:LU}(h:l.length=32):(keyD l).l=l:=by unfold keyD;rw[dif_pos h]
def toE(e:RE):WE:=(⟨keyD e.k,e.r.gone,e.r.val⟩,e.v)
def badK(rs:List RE):Bool:=rs.any fun e=>!(e.k.length==32)
def xh0(rs:List RE):Int:=if badK rs then 3 else if xd4 (rs.map toE) then 4 else 0
theorem of_bad(A:Option Addr)(n c:Nat)(l:LU)(w:World)(hr:Rd w A (bvs l))(hl:l.length=n)(hn:n≤140737488351232)(hc:n≤c)(hb : ¬ l.length=32) :
  Calls prog 40 #[.slice A n c] w (oB w (.tuple #[(⟨keyZ,xa7⟩:D32).a,iV 3])):=by
 refine(of_any A n c l w hr hl hn hc).mono ?_;rintro e w' ⟨rfl,hb2⟩;rw[if_neg hb,if_neg hb];exact⟨rfl,hb2⟩
theorem xux(x0:D32)(x1:Bool)(x2:Sv):Instr.fill (fun x=>[(0,32),(32,1),(33,1)].toArray[x]?) Wrt.z.cells.toArray [(0,.agg x0.c.toArray),(1,.bool x1),(2,x2.v)]=some ((⟨x0,x1,x2⟩:Wrt)).cells.toArray:=by
 rw[show Wrt.z=(⟨D32.z,false,Sv.nil⟩:Wrt) from rfl];refine xaj (vs:=x0.c) rfl (rfl) (D32.cl _) (by rw[Wrt.len];decide) ?_;rw[Wrt.s_key];refine xaj (vs:=[.bool x1]) rfl (rfl) (rfl) (by rw[Wrt.len];decide) ?_;rw[xbg _ _ _ (by rw[Wrt.len];decide)];rw[show(⟨x0,false,Sv.nil⟩:Wrt).cells.set 32 (.bool x1)=(⟨x0,x1,Sv.nil⟩:Wrt).cells from Wrt.s_gone (⟨x0,false,Sv.nil⟩:Wrt) (x1)];refine xaj (vs:=[x2.v]) rfl (rfl) (rfl) (by rw[Wrt.len];decide) ?_;rw[xbg _ _ _ (by rw[Wrt.len];decide)];rw[show(⟨x0,x1,Sv.nil⟩:Wrt).cells.set 33 (x2.v)=(⟨x0,x1,x2⟩:Wrt).cells from Wrt.s_val (⟨x0,x1,Sv.nil⟩:Wrt) (x2)];rfl
def vsL(l:List (LU×Int)):List (Value×Value):=l.map fun x=>(.string ⟨x.1.toArray⟩,.int .i64 x.2)
structure DcV (D:Nat→Prop)(w:World)(gd gs g gv gm:Nat)(σ:Sb)(vs vf:Sv)(vl:List (LU×Int))(root:Int):Prop where
 blk:Blk w gd 166 [pG gv,pG gs,iV root]
 st:StP D w gs g σ vs vf
 vb:Blk w gv 259 [pG gs,.map (some gm)]
 mp:MapP w gm (vsL vl)
 fd : ¬ D gd
 fv : ¬ D gv
 fm : ¬ D gm
 short:∀ x∈vl,x.1.length≤20
def dA(D:Nat→Prop)(gd gv gm:Nat):Nat→Prop:=fun k=>D k∨k=gd∨k=gv∨k=gm
section
variable {D D':Nat→Prop}{w w':World}{gd gs g gv gm:Nat}{σ:Sb}{vs vf:Sv}{vl:List (LU×Int)}{root:Int}
theorem DcV.dc(h:DcV D w gd gs g gv gm σ vs vf vl root):DcP D w gd gs g σ vs vf (pG gv) root:=⟨h.blk,h.st,h.fd⟩
theorem DcV.below(h:DcV D w gd gs g gv gm σ vs vf vl root)(hb:Bw w w'):DcV D w' gd gs g gv gm σ vs vf vl root :=
 ⟨h.blk.below hb h.blk.lt,h.st.below hb,h.vb.below hb h.vb.lt,h.mp.below hb,h.fd,h.fv,h.fm,h.short⟩
theorem DcV.lt(h:DcV D w gd gs g gv gm σ vs vf vl root):∀ k,dA D gd gv gm k→k<w.heap.size:=by
 rintro k (hk | rfl | rfl | rfl)
 ·exact h.st.sb.lt k hk
 ·exact h.blk.lt
 ·exact h.vb.lt
 ·exact h.mp.lt
theorem DcV.c0(h:DcV D w gd gs g gv gm σ vs vf vl root):w.cell? ⟨gd,0,none⟩=some (pG gv):=by rw[h.blk.cell];rfl
theorem DcV.c1(h:DcV D w gd gs g gv gm σ vs vf vl root):w.cell? ⟨gd,1,none⟩=some (pG gs):=by rw[h.blk.cell];rfl
theorem DcV.c2(h:DcV D w gd gs g gv gm σ vs vf vl root):w.cell? ⟨gd,2,none⟩=some (iV root):=by rw[h.blk.cell];rfl
theorem DcV.v0(h:DcV D w gd gs g gv gm σ vs vf vl root):w.cell? ⟨gv,0,none⟩=some (pG gs):=by rw[h.vb.cell];rfl
theorem DcV.v1(h:DcV D w gd gs g gv gm σ vs vf vl root):w.cell? ⟨gv,1,none⟩=some (.map (some gm)):=by rw[h.vb.cell];rfl
theorem DcV.dv(h:DcV D w gd gs g gv gm σ vs vf vl root):gd≠gv:=h.blk.ne h.vb (by decide)
theorem Stp.dict(hs:Stp D w D' w'):Stp (dA D gd gv gm) w (dA D' gd gv gm) w':=by
 refine⟨?_,?_,?_⟩
 ·rintro k (hk | hk)
  ·rcases hs.new k hk with h1 | h1
   ·exact .inl (.inl h1)
   ·exact .inr h1
  ·exact .inl (.inr hk)
 ·rintro k (hk | hk)
  ·exact .inl (hs.old k hk)
  ·exact .inr hk
 ·exact⟨hs.fr.os,hs.fr.tape,hs.fr.output,hs.fr.size,fun k hk hn=>hs.fr.block k hk (fun h=>hn (.inl h))⟩
theorem DcV.turned(h:DcV D w gd gs g gv gm σ vs vf vl root){σ':Sb}{vs' vf':Sv}(hs:Stp D w D' w')(hP:StP D' w' gs g σ' vs' vf'):DcV D' w' gd gs g gv gm σ' vs' vf' vl root:=by
 have hn:∀ k,¬ D k→k<w.heap.size→¬ D' k:=fun k hk hlt hd=>by
  rcases hs.new k hd with h1 | h1
  ·exact hk h1
  ·omega
 exact⟨h.blk.fr hs.fr h.fd,hP,h.vb.fr hs.fr h.fv,h.mp.fr hs.fr h.fm,hn _ h.fd h.blk.lt,hn _ h.fv h.vb.lt,hn _ h.fm h.mp.lt,h.short⟩
theorem DcV.rooted(h:DcV D w gd gs g gv gm σ vs vf vl root)(z:Int)(hb:Blk w' gd 166 [pG gv,pG gs,iV z])(hf:Fr (· = gd) w w'):DcV D w' gd gs g gv gm σ vs vf vl z :=
 ⟨hb,h.st.fr hf (fun k hk e=>h.fd (by rw[← e];exact hk)),h.vb.fr hf (fun e=>h.dv e.symm),h.mp.fr hf (fun e=>h.mp.ne_blk h.blk e),h.fd,h.fv,h.fm,h.short⟩
theorem xh1(hf:Fr (· = gd) w w'):Stp (dA D gd gv gm) w (dA D gd gv gm) w':=Stp.of_fr hf (fun k hk=>.inr (.inl hk))
end
def ApplyG(D:Nat→Prop)(w:World)(gs g:Nat)(σ:Sb)(R:List Int)(told:Tre)(es:List WE)(c:Nat)(e:Ending)(w':World):Prop :=
 ∃ (t:Tre)(z:Int)(D':Nat→Prop)(vs' vf':Sv)(σ':Sb),e=.returned (.tuple #[iV z,iV 0])∧StP D' w' gs g σ' vs' vf'∧Stp D w D' w'∧σ'.Inv (if z=0 then R else z::R) []∧σ.Keeps R σ'∧IsT σ' z 0 t∧σ'.room=σ.room∧σ'.used≤σ.used+c∧SpA told es t
theorem ApplyO.good{D:Nat→Prop}{w:World}{gs g:Nat}{σ:Sb}{R:List Int}{told:Tre}{es:List WE}{c:Nat}{e:Ending}{w':World}(h:ApplyO D w gs g σ R told es c e w')(hl:xd4 es=false):ApplyG D w gs g σ R told es c e w':=by
 rcases h with⟨h1,_⟩ | ⟨_,h⟩
 ·rw[hl] at h1;cases h1
 ·exact h
theorem ApplyO.bad{D:Nat→Prop}{w:World}{gs g:Nat}{σ:Sb}{R:List Int}{told:Tre}{es:List WE}{c:Nat}{e:Ending}{w':World}(h:ApplyO D w gs g σ R told es c e w')(hl:xd4 es=true):e=.returned (.tuple #[iV 0,iV 4])∧Bw w w':=by
 rcases h with⟨_,h⟩ | ⟨h1,_⟩
 ·exact h
 ·rw[hl] at h1;cases h1
def BatO(D:Nat→Prop)(w:World)(gd gs g gv gm:Nat)(σ:Sb)(vl:List (LU×Int))(R:List Int)(told:Tre)(rs:List RE)(e:Ending)(w':World):Prop :=
 (xh0 rs≠0∧e=.returned (iV (xh0 rs))∧Bw w w') ∨
 (xh0 rs=0∧∃ (t:Tre)(z:Int)(D':Nat→Prop)(vs' vf':Sv)(σ':Sb),e=.returned (iV 0)∧DcV D' w' gd gs g gv gm σ' vs' vf' vl z∧Stp (dA D gd gv gm) w (dA D' gd gv gm) w'∧σ'.Inv (if z=0 then R else z::R) []∧σ.Keeps R σ'∧IsT σ' z 0 t∧σ'.room=σ.room∧σ'.used≤σ.used+257*rs.length∧SpA told (rs.map toE) t)
section
variable {D:Nat→Prop}{w w':World}{gd gs g gv gm:Nat}{σ:Sb}{vs vf:Sv}{vl:List (LU×Int)}{root:Int}
theorem dc_batch(h:DcV D w gd gs g gv gm σ vs vf vl root)(R:List Int)(told:Tre)(hI:σ.Inv (if root=0 then R else root::R) [])(ht:IsT σ root 0 told)(hok:told.Ok 0)(A:Option Addr)(n c:Nat)(rs:List RE)(hW:RawT D w A n c rs)(hn:n≤11)(hbig:∀ e∈rs,e.k.length≤140737488351232)
  (hRl:R.length≤400000000) (hts:told.size≤400000) (hr:1≤σ.room∧σ.room≤65536) (hfit:σ.used+258*n≤σ.room) :
  Calls prog 74 #[pG gd,.slice A n c] w (BatO D w gd gs g gv gm σ vl R told rs):=by
 refine Xcz ?_;intro HH HI HT;have HOK:=hZ hok;have HW:=hZ hW;have HRL:=hZ hRl;have HTS:=hZ hts;have HRM:=hZ hr;have HFT:=hZ hfit;have HBIG:=hZ hbig;have HEL:=hZ hW.len;clear h hI ht hok hW hRl hts hr hfit hbig;obtain⟨w0,rfl,HL⟩:=lS w;go_enter func74,ntmps74;go_upto_region 0 with fail;refine X1j ?_;go_upto_region 1 with fail;refine Xey ?_;intro K hK;refine X1w ?_;(with_reducible refine(xnz (HH.out.dc.below HL.below)).mono ?_);rintro e w ⟨rfl,rfl⟩;refine X20 ?_;clear hK K;go_upto_region 3 with fail;refine X1j ?_;go_upto_region 4 with fail;refine X12 ?_;refine xaa rfl _ (xb3 underlying73 _ rfl _ _ _ rfl) ?_;refine X1e ?_;go_wp2_with fail
 go_loopw [5,16] (fun v z wr=>∃ (i:Nat)(G:BL)(sv:Sv),i≤n∧v=sv.v∧z=.int .i64 (i:Int)∧badK (rs.take i)=false∧Gw 222 34 G sv i (((rs.take i).map fun e=>(toE e).1).flatMap Wrt.cells)∧Loc w0 (Old w0) (G++[]) wr) (fun _ z _=>(n - intOf z).toNat)
 case atStart=>exact⟨0,[],Sv.nil,Nat.zero_le _,rfl,rfl,rfl,Gw.nil 222 34,HL⟩
 case round=>as_aux_lemma =>
  clear HL;obtain⟨i,G,sv,hi,rfl,rfl,hbk,hG,HL⟩:=hrel;obtain⟨w,rfl⟩:=eW wr;have HBK:=hZ hbk;clear hbk;by_cases hlt:i<n
  ·have k5:decide ((i:Int)<(n:Int))=true:=by simp;omega
   refine Xb1 ?_;intro HI1;have hil:i<rs.length:=by rw[HEL.out];exact hlt
   obtain⟨ad,hA,hrd0⟩:=HW.out.at_ i hil;refine Xan ?_;intro HSV;have HRD:∀ (L:BL)(W:World),Loc w0 (Old w0) L W→Hid (Rd W (some (ad.add (i*3))) rs[i].r.cells):=fun L W hW=>hZ (hrd0.below hW.below)
   have HTK:Hid (((rs.take (i+1)).map fun e=>(toE e).1)=((rs.take i).map fun e=>(toE e).1)++[(toE rs[i]).1]):=hZ (by rw[List.take_succ_eq_append_getElem hil,List.map_append];rfl)
   have HTB:Hid (badK (rs.take (i+1))=(badK (rs.take i) || !(rs[i].k.length==32))):=hZ (by
    unfold badK;rw[List.take_succ_eq_append_getElem hil,List.any_append]
    simp only[List.any_cons,List.any_nil,Bool.or_false])
   have HKT:=hZ (HW.out.kt _ (List.getElem_mem hil));have HBG:=hZ (HBIG.out _ (List.getElem_mem hil));have HME:=hZ (List.getElem_mem hil);clear hA hrd0;obtain⟨x,hx⟩:∃ x,rs[i]=x:=⟨_,rfl⟩;rw[hx] at HRD HTK HTB HKT HBG HME;clear hx;go_upto_region 5 with fail;refine Xt ?_;refine xaa rfl _ (xax _ _ rfl _ _ rfl rfl k5) ?_;refine X1z ?_;go_upto_region 6 with fail;refine Xt ?_;refine xaa rfl _ (xaz sl73 (.tmp 14) _ rfl ad n c i .i64 HSV.out rfl hlt) ?_;refine X6 ?_;refine xaa rfl _ (xa5 ag80 _ rfl _ x.r.cells rfl (HRD _ _ HL).out (by omega) (Rw.len _)) ?_;refine X6 ?_;refine xah zr80w rfl rfl HL ?_;clear HL;intro g7 w HL;refine Xu ?_;refine xbo ag80 rfl _ _ rfl HL 0 _ _ _ _ rfl rfl rfl (Rw.len _) (Rw.len _) (Rw.one _) ?_;refine X34 ?_;clear HL;intro w HL;by_cases hk:x.k.length=32
   ·have HK32:=hZ hk
    have HKE:Hid ((toE x).1=⟨keyD x.k,x.r.gone,x.r.val⟩∧(keyD x.k).l=x.k∧x.r.key.n=32):=hZ ⟨rfl,xn0 hk,by rw[← HKT.out.len];exact hk⟩;have HNX:Hid (badK (rs.take (i+1))=false):=hZ (by rw[HTB.out,HBK.out,hk];rfl);have CO:∀ (L:BL)(u:World),Loc w0 (Old w0) L u→Hid (Calls prog 40 #[x.r.key.v] u (oB u (.tuple #[(keyD x.k).a,iV 0]))):=fun L u hu=>hZ (of_d u x.r.key.A x.r.key.n x.r.key.c (keyD x.k) (by rw[HKE.out.2.1];exact(HKT.out.below hu.below).rd) HKE.out.2.2 HKT.out.cap)
    clear hk;go_upto_region 7 with fail;refine Xt ?_;refine xaa rfl _ (xaf fa80_0 _ rfl _ rfl) ?_;refine Xfj ?_;refine X50 ?_;intro K hK;refine Xf0 ?_;refine X1w ?_;(with_reducible refine((CO _ _ HL).out).mono ?_);refine X4a ?_;clear hK K;intro w HL;refine xah zr24 rfl rfl HL ?_;clear HL;intro g8 w HL;refine Xfb ?_;clear HL;intro w HL;go_upto_region 8 with fail;refine Xew ?_;go_upto_region 10 with fail;refine X12 ?_;refine X6x ?_;refine X6 ?_;refine xaa rfl _ (xaf fa80_1 _ rfl _ rfl) ?_;refine X6 ?_;refine xaa rfl _ (xai sc4 HL _ rfl _ _ rfl _ _ _ (.tail _ (.head _)) (Rw.g_gone _)) ?_;refine X6 ?_;refine xaa rfl _ (xaf fa80_2 _ rfl _ rfl) ?_;refine X6 ?_;refine xaa rfl _ (xai sc25 HL _ rfl _ _ rfl _ _ _ (.tail _ (.head _)) (Rw.g_val _)) ?_;refine X6 ?_
    refine xaa rfl _ (xbp bs222 _ rfl _ (by exact xux (keyD x.k) x.r.gone x.r.val)) ?_;refine X6 ?_;refine xb2 xcq xfn (by decide) rfl _ rfl HL _ rfl (Wrt.len _) ?_;clear HL;intro g36 w HL;refine X50 ?_;intro K hK;refine xan xcq xfn _ _ rfl [_,_,_] i sv _ hG HL rfl ⟨g36,0,none⟩ 1 1 (⟨keyD x.k,x.r.gone,x.r.val⟩:Wrt).cells rfl (Rd.of_blk0 (es:=[]) (by rw[List.append_nil];exact HL.blk (.head _))) (Wrt.len _) (Wrt.one _) (by decide) (by omega) (by omega) ?_;clear HL;intro sv' G' w hG' HL;refine Xaa ?_;clear hK K;have HLd:=HL.drop (G'++[]) (sA [_,_,_] _);have HG':=hZ hG';clear HL hG hG';have HL:=HLd;clear HLd;go_upto_region 11 with fail;refine Xt ?_;refine Xb6 ?_;refine X1e ?_;go_wp2_with fail;go_roundw
    case rel=>exact⟨i+1,G',sv',by omega,rfl,rfl,HNX.out,by rw[HTK.out,List.flatMap_append];simpa[toE] using HG'.out,HL⟩
    case measure=>simp[intOf]<;>omega
   ·have HERR:Hid (xh0 rs=3):=hZ (by
     have h9:badK rs=true:=List.any_eq_true.2 ⟨x,HME.out,by simpa using hk⟩;unfold xh0
     rw[if_pos h9])
    have CO:∀ (L:BL)(u:World),Loc w0 (Old w0) L u→Hid (Calls prog 40 #[x.r.key.v] u (oB u (.tuple #[(⟨keyZ,xa7⟩:D32).a,iV 3]))):=fun L u hu=>hZ (of_bad x.r.key.A x.r.key.n x.r.key.c x.k u (HKT.out.below hu.below).rd HKT.out.len (by rw[← HKT.out.len];exact HBG.out) HKT.out.cap hk)
    clear hk;go_upto_region 7 with fail;refine Xt ?_;refine xaa rfl _ (xaf fa80_0 _ rfl _ rfl) ?_;refine Xfj ?_;refine X50 ?_;intro K hK;refine Xf0 ?_;refine X1w ?_;(with_reducible refine((CO _ _ HL).out).mono ?_);refine X4a ?_;clear hK K;intro w HL;refine xah zr24 rfl rfl HL ?_;clear HL;intro g8 w HL;refine Xfb ?_;clear HL;intro w HL;go_upto_region 8 with fail;refine Xex ?_;go_upto_region 9 with fail;refine X7v ?_;go_wp2_with fail;go_ret;exact .inl ⟨by rw[HERR.out];decide,by rw[HERR.out];rfl,HL.below⟩
  ·have k5:decide ((i:Int)<(n:Int))=false:=by simp;omega
   have hin:i=n:=by omega
   subst hin;rw[List.take_of_length_le (by rw[HEL.out];exact Nat.le_refl _)] at hG;have HBKA:Hid (badK rs=false):=hZ (by have h9:=HBK.out;rwa [List.take_of_length_le (by rw[HEL.out];exact Nat.le_refl _)] at h9);clear hlt;go_upto_region 5 with fail;refine Xt ?_;refine xaa rfl _ (xax _ _ rfl _ _ rfl rfl k5) ?_;refine X1z ?_;have HB:=hZ HL.below;have hmm:((rs.map toE).map Prod.fst)=rs.map fun e=>(toE e).1:=by rw[List.map_map];rfl
   have HWT:Hid (WriT D w sv.A sv.n sv.c ((rs.map toE).map Prod.fst) ((rs.map toE).map Prod.snd)):=hZ (by
    refine⟨⟨by rw[hmm];exact hG.rd (L0:=[]) HL,by rw[hmm,List.length_map,HEL.out];exact hG.len.symm,hG.cap.1⟩,by simp,fun j hj=>?_,fun hne ad e hk=>?_,fun j hj hne ad e=>?_⟩
    ·have hj2:j<rs.length:=by simpa using hj
     have h1:=(HW.out.vt _ (List.getElem_mem hj2)).below HL.below;simpa[List.getD_eq_getElem?_getD,List.getElem?_map,List.getElem?_eq_getElem hj2,toE] using h1
    ·have h1:=hG.fars (N:=w0.heap.size) (fun x hx=>Nat.le_of_not_lt fun hlt=>(HL.own x (by simp[hx])).1 hlt) ad e
     have h2:=HH.out.st.sb.lt _ hk;omega
    ·have hj2:j<rs.length:=by simpa using hj
     refine HW.out.dv _ (List.getElem_mem hj2) ?_ ad (by simpa[toE] using e)
     simpa[List.getD_eq_getElem?_getD,List.getElem?_map,List.getElem?_eq_getElem hj2,toE] using hne)
   have CA:∀ u,Bw w u→Hid (Calls prog 127 #[pG gs,iV root,sv.v] u (ApplyO D u gs g σ R told (rs.map toE) (257*sv.n))):=fun u hu=>hZ (apply_ok D u gs g σ vs vf R root told sv.A sv.n sv.c (rs.map toE) ((HH.out.st.below HB.out).below hu) HI.out HT.out HOK.out (HWT.out.step (Stp.of_below hu)) (by rw[hG.len];exact hn) HRL.out HTS.out HRM.out (by rw[hG.len];exact HFT.out))
   have HSN:=hZ hG.len;have HDW:=hZ (HH.out.below HB.out);clear HL hG hmm HWT;have HL:=Loc.start w;obtain⟨w1,rfl⟩:=eW w;have hgd:Old w1 gd∧¬ D gd:=⟨HDW.out.blk.lt,HDW.out.fd⟩;have hc1:=HDW.out.c1;have hc2:=HDW.out.c2;have HX:=HL.less (D':=fun k=>Old w1 k∧¬ D k) (fun k hk=>hk.1);have HLB:=hZ HL.drew.below;clear HL;have HL:=HX;clear HX
   cases hlong:xd4 (rs.map toE) with
   | true =>
    have HERR:Hid (xh0 rs=4):=hZ (by unfold xh0;rw[HBKA.out,hlong];rfl);replace CA:∀ u,Bw w1 u→Hid (Calls prog 127 #[pG gs,iV root,sv.v] u (oB u (.tuple #[iV 0,iV 4]))):=fun u hu=>hZ ((CA u hu).out.mono fun e w' h9=>h9.bad hlong)
    clear hlong;go_upto_region 12 with fail;refine Xdi ?_;refine Xfh ?_;intro HL;refine X3g ?_;refine Xg ?_;intro K hK;refine xad cf127 rfl _ rfl ?_;refine X1w ?_;(with_reducible refine((CA _ HLB.out).out).mono ?_);refine X43 ?_;intro w hb HL;have HBW:=hZ ((HB.out.trans (HLB.out.mono HB.out.size)).trans (hb.mono (Nat.le_trans HB.out.size HLB.out.size)));clear hb;refine X7e ?_;clear hK K;go_upto_region 13 with fail;refine X12 ?_;refine Xfk ?_;refine X1z ?_;go_upto_region 15 with fail;refine X7v ?_;go_wp2_with fail;go_ret;exact .inl ⟨by rw[HERR.out];decide,by rw[HERR.out];rfl,HBW.out⟩
   | false =>
    have HERR:Hid (xh0 rs=0):=hZ (by unfold xh0;rw[HBKA.out,hlong];rfl);replace CA:∀ u,Bw w1 u→Hid (Calls prog 127 #[pG gs,iV root,sv.v] u (ApplyG D u gs g σ R told (rs.map toE) (257*sv.n))):=fun u hu=>hZ ((CA u hu).out.mono fun e w' h9=>h9.good hlong)
    clear hlong;go_upto_region 12 with fail;refine Xdi ?_;refine Xfh ?_;intro HL;refine X3g ?_;refine Xg ?_;intro K hK;refine xad cf127 rfl _ rfl ?_;refine X1w ?_;(with_reducible refine((CA _ HLB.out).out).mono ?_);rintro e w ⟨t,z,D2,vs2,vf2,σ2,rfl,hP2,hS2,hI2,hK2,hT2,hr2,hu2,hsp2⟩;replace HL:=HL.frame hS2.fr (fun k hk hd=>hd.2 hk) (fun x hx=>by cases hx);have HD2:=hZ ((HDW.out.below HLB.out).turned hS2 hP2);have HS2:Hid (Stp (dA D gd gv gm) w0 (dA D2 gd gv gm) w):=hZ ((Stp.of_below (HB.out.trans (HLB.out.mono HB.out.size))).trans hS2.dict);have HI2:=hZ hI2;have HK2:=hZ hK2;have HT2:=hZ hT2;have HU2:Hid (σ2.room=σ.room∧σ2.used≤σ.used+257*rs.length):=hZ ⟨hr2,by rw[HSN.out] at hu2;rw[HEL.out];exact hu2⟩;have HSP:=hZ hsp2;clear hP2 hS2 hI2 hK2 hT2 hr2 hu2 hsp2;refine X7e ?_;clear hK K;clear HL
    go_upto_region 13 with fail;refine Xfm ?_;refine X1z ?_;have HL:=(Loc.start w).adopt (fun k=>k=gd) [(gd,166,[pG gv,pG gs,iV root])] (by simp;exact HD2.out.blk) (by simp);simp only[qn] at HL;obtain⟨w2,rfl⟩:=eW w;go_upto_region 14 with fail;refine X30 ?_;refine Xf3 ?_;refine Xfi ?_;refine X34 ?_;clear HL;intro w HL;go_upto_region 15 with fail;refine X7v ?_;go_wp2_with fail;go_ret;have hf:=HL.frS;exact .inr ⟨HERR.out,t,z,D2,vs2,vf2,σ2,rfl,HD2.out.rooted z (HL.blk (.head _)) hf,HS2.out.trans (xh1 hf),HI2.out,HK2.out,HT2.out,HU2.out.1,HU2.out.2,HSP.out⟩
end
section
variable {P:Program}{w:World}{o:Oper}{a:Act}{Q:Exit→Act→World→Prop}{K:Act→World→Prop}
theorem xiu{n:Nat}(C:CF P n){x:Operand}{xs:List Operand}{ts:Array TypeId}(ho:o.op=.call { callee:=.value x,args:=xs.toArray,argTypes:=ts })(fs cp:List Value)(hx:a.eval x=.func (.func n) fs.toArray cp.toArray)
  (args:List Value) (ha:fs++xs.map a.eval++cp=args) (hC:Calls P n args.toArray w fun e w'=>∃ v,e=.returned v∧K (a.put o.dst v) w'):o.wp P a w K Q:=by
 obtain⟨fn,hf,hnm,hb⟩:=C.f
 have e:(execOp a.eval o).run P w=.ok (.enter n args.toArray) w:=by
  unfold execOp;simp only[ho,resolve,List.map_toArray,hx];have h1:fn.name≠ "runtime.NumGoroutine" := by simpa using hnm
  have h2:fn.body≠none:=by intro h;rw[h] at hb;cases hb
  have h3:fs.toArray++(xs.map a.eval).toArray++cp.toArray=args.toArray:=by rw[← ha];simp
  simp[Deferred.ofValue,invoke,callFunc,hf,h1,h2,← ha]
 unfold Oper.wp;rw[e];refine hC.mono ?_;rintro e w' ⟨v,rfl,hk⟩;exact hk
theorem xiv(fn:Fn)(fs cp:List Operand)(ho:o.op=.makeFunc fn fs.toArray cp.toArray)(vs us:List Value)(h1:fs.map a.eval=vs)(h2:cp.map a.eval=us):(execOp a.eval o).run P w=.ok (.value (.func fn vs.toArray us.toArray)) w:=by
 unfold execOp;simp only[ho,Instr.makeFunc,List.map_toArray,h1,h2,Sem.run_bind,Sem.run_pure,Result.andThen_ok]
theorem xpu{t t' k e:TypeId}(ht:P.underlying t=some (.map k e))(x:Operand)(ho:o.op=.binOp .eql t x (.const (.map none)) t')(b:Nat)(hx:a.eval x=.map (some b)):(execOp a.eval o).run P w=.ok (.value (.bool false)) w:=by
 have h:=run_eql_map_nil w t k e (some b) ht;have hc:a.eval (.const (.map none))=.map none:=rfl;unfold execOp;simp only[ho,hx,hc];go_simp
theorem xgi{t:TypeId}(ht:P.underlying t=some .string)(x:Operand)(ho:o.op=.call { callee:=.builtin .len,args:=#[x],argTypes:=#[t] })(l:LU)(hx:a.eval x=.string ⟨l.toArray⟩) :
  (execOp a.eval o).run P w=.ok (.value (iV (l.length:Int))) w:=by
 have e:(Builtin.len_ #[t] o.type #[.string ⟨l.toArray⟩]).run P w=.ok (iV (l.length:Int)) w:=by
  simp[Builtin.len_,run_underlying ht];rfl
 unfold execOp;simp only[ho,resolve,invoke,builtin,Sem.run_bind,Sem.run_pure,Result.andThen_ok,List.map_toArray,qk,ql,hx,e]
end
section
variable {D:Nat→Prop}{w w':World}{gd gs g gv gm:Nat}{σ:Sb}{vs vf:Sv}{vl:List (LU×Int)}{root:Int}
theorem vs_none(h:DcV D w gd gs g gv gm σ vs vf vl root):Calls prog 182 #[pG gv] w fun e w'=>e=.returned (.bool false)∧w=w':=by
 have hgv:Old w gv:=h.vb.lt;have hv1:=h.v1;clear h;obtain⟨w0,rfl,HL⟩:=lS w;go_enter func182,ntmps182;go_upto_region 0 with fail;refine X1j ?_;go_upto_region 1 with fail;refine X1o ?_;refine X1p ?_;refine xac rfl _ (xaf xsj _ rfl _ rfl) ?_;refine X6 ?_;refine xac rfl _ (xa8 sc257 HL _ rfl _ rfl _ hgv hv1) ?_;refine X6 ?_;refine xac rfl _ (xpu underlying257 _ rfl gm rfl) ?_;refine X82 ?_;go_wp2_with fail;go_ret;exact⟨rfl,rfl⟩
theorem vs_len(h:DcV D w gd gs g gv gm σ vs vf vl root):Calls prog 181 #[pG gv] w fun e w'=>e=.returned (iV (vl.length:Int))∧w=w':=by
 have HH:=hZ h;have HM:Hid (MapP w gm (vsL vl)):=hZ h.mp;have hgv:Old w gv:=h.vb.lt;have hv1:=h.v1;have HE:Hid ((vsL vl).length=vl.length):=hZ (by simp[vsL]);clear h;obtain⟨w0,rfl,HL⟩:=lS w;go_enter func181,ntmps181;go_upto_region 0 with fail;refine X1j ?_;go_upto_region 1 with fail;refine X1v ?_;intro K hK;refine Xfn ?_;refine Xfo ?_;rintro e w ⟨rfl,rfl⟩;refine X20 ?_;clear hK K;go_upto_region 3 with fail;refine Xfq ?_;refine X6 ?_;refine xaa rfl _ (xja HM.out underlying257 _ rfl rfl) ?_;refine X1a ?_;go_wp2_with fail;go_ret;exact⟨by rw[← HE.out];rfl,rfl⟩
theorem xs6{nm:Value}(h:DcP D w gd gs g σ vs vf nm root):Calls prog 123 #[pG gd] w fun e w'=>e=.returned (iV 0)∧w=w':=by
 have HH:=hZ h;clear h;obtain⟨w0,rfl,HL⟩:=lS w;go_enter func123,ntmps123;go_upto_region 0 with fail;refine X1j ?_;go_upto_region 1 with fail;refine Xey ?_;intro K hK;refine X1w ?_;refine Xez ?_;rintro e w ⟨rfl,rfl⟩;refine X20 ?_;clear hK K;go_upto_region 3 with fail;refine X1j ?_;go_wp2_with fail;go_ret;exact⟨rfl,rfl⟩
def HoldO(D:Nat→Prop)(w:World)(gs g:Nat)(σ:Sb)(vs vf:Sv)(R:List Int)(root:Int)(e:Ending)(w':World):Prop :=
 ∃ σ',e=.returned (iV 0)∧StP D w' gs g σ' vs vf∧Stp D w D w'∧σ'.Inv (if root=0 then R else root::R) []∧σ.Stays σ'∧σ'.room=σ.room∧σ'.used=σ.used
theorem vs_hold(h:DcV D w gd gs g gv gm σ vs vf vl root)(R:List Int)(hI:σ.Inv R [])(z:Int)(t:Tre)(ht:IsT σ z 0 t)(hRl:R.length≤536870912) :
  Calls prog 183 #[pG gv,iV z] w (HoldO D w gs g σ vs vf R z):=by
 have hgv:Old w gv:=h.vb.lt;have hv0:=h.v0;obtain⟨w0,rfl,HL⟩:=lS w;by_cases hz:z=0
 ·subst hz
  go_enter func183,ntmps183;go_upto_region 0 with fail;refine X1j ?_;go_upto_region 1 with fail;refine Xfm ?_;refine X1z ?_;go_upto_region 2 with fail;refine X1j ?_;go_wp2_with fail;go_ret;exact⟨σ,rfl,h.st,Stp.refl _ _,by simpa using hI,fun i hi hc=>⟨hi,rfl,rfl,hc⟩,rfl,rfl⟩
 ·obtain⟨i,hi,hzi,hc,_⟩:=ht.nz hz
  have hcl:=hI.count_le i hi;have hhl:=hI.held_le i hi;have hok:=hI.ok;have h1:=hok.few;have h2:=hok.r2;have hcp:=hI.count i hi
  have HB:Hid (0<σ.slots[i].count∧σ.slots[i].count<1073741824∧(-4611686018427387904≤σ.slots[i].nd.held∧σ.slots[i].nd.held≤4611686018427387900)):=hZ (by
   simp only[qs] at hcl
   refine⟨by omega,by omega,by omega,by omega⟩)
  have k1:(z==0)=false:=by simpa using hz
  have HH:=hZ h;have HI:=hZ (hI.hold i hi hc);have HZ:=hZ hzi;clear hcl hhl hok h1 h2 hcp h hI ht hzi;go_enter func183,ntmps183;go_upto_region 0 with fail;refine X1j ?_;go_upto_region 1 with fail;refine X12 ?_;refine X9w ?_;refine X1z ?_;go_upto_region 3 with fail;refine X14 ?_;refine Xfr ?_;refine X6 ?_;refine Xfs ?_;refine X42 ?_;intro K hK;refine X9r ?_;(with_reducible refine(xju HH.out.st z i HZ.out hi HB.out.1 HB.out.2.1 HB.out.2.2).mono ?_);rintro e w ⟨rfl,hP,hf⟩;refine X2m ?_;clear hK K;go_wp2_with fail;go_ret;have hS:σ.Stays (σ.hold i hi):=Sb.Stays.hold i hi (by have:=HB.out.1;omega);exact⟨σ.hold i hi,rfl,hP,Stp.of_fr hf (fun k hk=>HH.out.st.sb.own k hk),by rw[if_neg hz,HZ.out];exact HI.out.1,hS,rfl,rfl⟩
end
theorem xn1{vl:List (LU×Int)}(h:∀ x∈vl,x.1.length≤20):xil prog 9 (vsL vl):=fun x hx=>by
 obtain⟨y,hy,rfl⟩:=List.mem_map.1 hx
 exact key9 _ (by
  show y.1.toArray.size≤maxLen;have:=h y hy;have e:y.1.toArray.size=y.1.length:=by simp
  rw[e];unfold maxLen;omega)
theorem xs7{a b:LU}(h:(Value.string ⟨a.toArray⟩)=.string ⟨b.toArray⟩):a=b:=by
 injection h with h;injection h with h;simpa using congrArg Array.toList h
theorem vsL_no{vl:List (LU×Int)}{s:LU}(h:s∉vl.map Prod.fst):∀ x∈vsL vl,x.1≠.string ⟨s.toArray⟩:=fun x hx e=>by
 obtain⟨y,hy,rfl⟩:=List.mem_map.1 hx;exact h (List.mem_map.2 ⟨y,hy,xs7 e⟩)
theorem xk2{vl:List (LU×Int)}{s:LU}{j:Nat}{u:Value}(h:(vsL vl)[j]? = some (.string ⟨s.toArray⟩,u)):∃ z,vl[j]? = some (s,z)∧u=.int .i64 z:=by
 unfold vsL at h;rw[List.getElem?_map] at h
 cases hk:vl[j]? with
 | none=>rw[hk] at h;cases h
 | some y =>
  rw[hk] at h;simp only[Option.map_some,Option.some.injEq,Prod.mk.injEq] at h;refine⟨y.2,?_,h.2.symm⟩;rw[← xs7 h.1]
theorem xn2{σ:Sb}{root:Int}{t:Tre}{D:Nat→Prop}{gs g:Nat}{vs vf:Sv}{u:World}(hu:StP D u gs g σ vs vf)(ht:IsT σ root 0 t):Calls prog 154 #[pG gs,iV root] u (oB u (iV 0)):=by
 by_cases h0:root=0
 ·subst h0
  exact(xhn hu.sw).mono fun e w' h=>⟨h.1,by rw[← h.2];exact Below.refl _ _⟩
 ·obtain⟨i,hi,hz,hc,_,_,hk,hd,_⟩:=ht.nz h0
  refine xjt hu.sw root σ.slots[i].nd σ.slots[i].val (.inl ⟨rfl,i,hz,hi,rfl,rfl,hc⟩) ?_
  cases hin:t.isIn with
  | false=>rw[hin] at hk;exact .inl hk
  | true=>rw[hin] at hk;exact .inr ⟨hk,by simpa using hd hin⟩
theorem stp_or{D D' E:Nat→Prop}{w w':World}(hs:Stp D w D' w'):Stp (fun k=>D k∨E k) w (fun k=>D' k∨E k) w':=by
 refine⟨?_,?_,?_⟩
 ·rintro k (hk | hk)
  ·rcases hs.new k hk with h1 | h1
   ·exact .inl (.inl h1)
   ·exact .inr h1
  ·exact .inl (.inr hk)
 ·rintro k (hk | hk)
  ·exact .inl (hs.old k hk)
  ·exact .inr hk
 ·exact⟨hs.fr.os,hs.fr.tape,hs.fr.output,hs.fr.size,fun k hk hn=>hs.fr.block k hk (fun h=>hn (.inl h))⟩
theorem stp_dA{D D':Nat→Prop}{w w':World}{gd gv gm:Nat}(hs:Stp (fun k=>D k∨k=gm) w (fun k=>D' k∨k=gm) w'):Stp (dA D gd gv gm) w (dA D' gd gv gm) w':=by
 refine⟨?_,?_,?_⟩
 ·rintro k (hk | rfl | rfl | rfl)
  ·rcases hs.new k (.inl hk) with(h1 | h1) | h1
   ·exact .inl (.inl h1)
   ·exact .inl (.inr (.inr (.inr h1)))
   ·exact .inr h1
  ·exact .inl (.inr (.inl rfl))
  ·exact .inl (.inr (.inr (.inl rfl)))
  ·exact .inl (.inr (.inr (.inr rfl)))
 ·rintro k (hk | hk)
  ·rcases hs.old k (.inl hk) with h1 | h1
   ·exact .inl h1
   ·exact .inr (.inr (.inr h1))
  ·exact .inr hk
 ·refine⟨hs.fr.os,hs.fr.tape,hs.fr.output,hs.fr.size,fun k hk hn=>hs.fr.block k hk ?_⟩
  rintro(h | h)
  ·exact hn (.inl h)
  ·exact hn (.inr (.inr (.inr h)))
def AddO(D:Nat→Prop)(w:World)(gd gs g gv gm:Nat)(σ:Sb)(vs vf:Sv)(vl:List (LU×Int))(root:Int)(R:List Int)(s:LU)(e:Ending)(w':World):Prop :=
 ∃ σ',e=.returned (iV 0)∧DcV D w' gd gs g gv gm σ' vs vf (vl++[(s,root)]) root∧Stp (fun k=>D k∨k=gm) w (fun k=>D k∨k=gm) w'∧σ'.Inv (if root=0 then R else root::R) []∧σ.Stays σ'∧σ'.room=σ.room∧σ'.used=σ.used
section
variable {D:Nat→Prop}{w w':World}{gd gs g gv gm:Nat}{σ:Sb}{vs vf:Sv}{vl:List (LU×Int)}{root:Int}
end
def xmk(R R':List Int)(z:Int):Prop:=(z=0∧R=R')∨(z≠0∧∀ y,R.count y=R'.count y+if y=z then 1 else 0)
def GoneO(D:Nat→Prop)(w:World)(gs g:Nat)(σ:Sb)(R:List Int)(e:Ending)(w':World):Prop :=
 ∃ (m:Int)(D':Nat→Prop)(vs' vf':Sv)(σ':Sb),e=.returned (iV m)∧StP D' w' gs g σ' vs' vf'∧Stp D w D' w'∧σ'.Inv R []∧σ.Keeps R σ'∧σ'.used≤σ.used∧σ'.room=σ.room
def PruO(D:Nat→Prop)(w:World)(gd gs g gv gm:Nat)(σ:Sb)(vl:List (LU×Int))(root:Int)(R:List Int)(mk:Int→Value)(e:Ending)(w':World):Prop :=
 ∃ (m:Int)(D':Nat→Prop)(vs' vf':Sv)(σ':Sb),e=.returned (mk m)∧DcV D' w' gd gs g gv gm σ' vs' vf' vl root∧Stp (dA D gd gv gm) w (dA D' gd gv gm) w'∧σ'.Inv R []∧σ.Keeps R σ'∧σ'.used≤σ.used∧σ'.room=σ.room
def mkA(m:Int):Value:=.tuple #[iV m,iV 0]
def mkB(_:Int):Value:=.int .i64 0
section
variable {D:Nat→Prop}{w w':World}{gd gs g gv gm:Nat}{σ:Sb}{vs vf:Sv}{vl:List (LU×Int)}{root:Int}
theorem vs_root(h:DcV D w gd gs g gv gm σ vs vf vl root)(hnd:(vl.map Prod.fst).Nodup)(s:LU)(hs:s.length≤20)(z:Int)(j:Nat)(hj:vl[j]? = some (s,z)) :
  Calls prog 128 #[pG gv,.string ⟨s.toArray⟩] w fun e w'=>e=.returned (.tuple #[iV z,iV 0])∧w=w':=by
 have HH:=hZ h;have hgv:Old w gv:=h.vb.lt;have hv1:=h.v1
 obtain⟨kl,hkl⟩:=key9 ⟨s.toArray⟩ (by
  show s.toArray.size≤maxLen;have e:s.toArray.size=s.length:=by simp
  rw[e];unfold maxLen;omega)
 have HKL:=hZ hkl;have HKO:=hZ (xn1 h.short)
 have HLK:Hid (((∀ p∈vsL vl,p.1≠.string ⟨s.toArray⟩)→Value.int .i64 z=.int .i64 0∧true=false)∧(∀ (j':Nat)(u:Value),(vsL vl)[j']? = some (.string ⟨s.toArray⟩,u)→Value.int .i64 z=u∧true=true)):=hZ ⟨fun hn=>by
  have hm:((s,z):LU×Int)∈vl:=List.mem_of_getElem? hj
  exact absurd rfl (hn _ (List.mem_map.2 ⟨_,hm,rfl⟩)),fun j' u h2=>by
  obtain⟨z',h3,h4⟩:=xk2 h2;have e1:(vl.map Prod.fst)[j]? = some s:=by rw[List.getElem?_map,hj];rfl
  have e2:(vl.map Prod.fst)[j']? = some s:=by rw[List.getElem?_map,h3];rfl
  obtain rfl:=xfm hnd e1 e2;rw[hj] at h3;injection h3 with h3;injection h3 with _ h3
  exact⟨by rw[h4,h3],rfl⟩⟩
 clear h hnd hj hkl;obtain⟨w0,rfl,HL⟩:=lS w;go_enter func128,ntmps128;go_upto_region 0 with fail;refine X2y ?_;go_upto_region 1 with fail;refine X1v ?_;intro K hK;refine Xfn ?_;refine Xfo ?_;rintro e w ⟨rfl,rfl⟩;refine X20 ?_;clear hK K;go_upto_region 3 with fail;refine Xfq ?_;refine X15 ?_;refine xaa rfl _ (xfj (HH.out.mp.below HL.below) law9 underlying257 (xpo _) HKO.out HKL.out (.tmp 14) (.tmp 15) rfl rfl rfl (iV z) true HLK.out) ?_;refine Xca ?_;go_upto_region 4 with fail;refine X2n ?_;go_upto_region 6 with fail;refine X3s ?_;go_wp2_with fail;go_ret2;exact⟨rfl,rfl⟩
theorem vs_drop(h:DcV D w gd gs g gv gm σ vs vf vl root)(R R':List Int)(hI:σ.Inv R [])(z:Int)(t:Tre)(ht:IsT σ z 0 t)(hR:xmk R R' z)(h1:R.length≤1073741824)(h2:R'.length≤1073741824) :
  Calls prog 184 #[pG gv,iV z] w (GoneO D w gs g σ R'):=by
 have hgv:Old w gv:=h.vb.lt;have hv0:=h.v0;obtain⟨w0,rfl,HL⟩:=lS w;by_cases hz:z=0
 ·subst hz
  obtain rfl:R=R':=hR.elim (fun x=>x.2) (fun x=>absurd rfl x.1);go_enter func184,ntmps184;go_upto_region 0 with fail;refine X1j ?_;go_upto_region 1 with fail;refine X1j ?_;go_upto_region 2 with fail;refine Xew ?_;go_upto_region 4 with fail;refine X7v ?_;go_wp2_with fail;go_ret;exact⟨0,D,vs,vf,σ,rfl,h.st,Stp.refl _ _,hI,Sb.Keeps.refl _ _,Nat.le_refl _,rfl⟩
 ·obtain⟨i,hi,hzi,hc,_⟩:=ht.nz hz
  have hR':∀ y,R.count y=R'.count y+if y=(i:Int)+1 then 1 else 0:=by
   rw[← hzi];exact hR.elim (fun x=>absurd x.1 hz) (fun x=>x.2)
  have HD:=hZ (xf0 h.st R R' hI z i hzi hi hR' h1 h2);have k1:(z==0) = !true:=by simpa using hz
  clear h hI ht hR hR' hzi;go_enter func184,ntmps184;go_upto_region 0 with fail;refine X1j ?_;go_upto_region 1 with fail;refine X1j ?_;go_upto_region 2 with fail;refine X12 ?_;refine X83 ?_;refine X1z ?_;go_upto_region 3 with fail;refine X14 ?_;refine Xfr ?_;refine X6 ?_;refine Xfs ?_;refine X42 ?_;intro K hK;refine X9t ?_;(with_reducible refine(HD.out).mono ?_);rintro e w ⟨m,D',vs',vf',σ',rfl,hP,hS,hI,hY,hu,hr,_⟩;have HO:=hZ (And.intro hP (And.intro hS (And.intro hI (And.intro hY (And.intro hu hr)))));clear hP hS hI hY hu hr;refine X1y ?_;clear hK K;refine X15 ?_;refine X47 ?_;refine X46 ?_;refine X1a ?_;clear HL;go_upto_region 4 with fail;refine X7v ?_;go_wp2_with fail;go_ret;exact⟨m,D',vs',vf',σ',rfl,HO.out.1,HO.out.2.1,HO.out.2.2.1,HO.out.2.2.2.1,HO.out.2.2.2.2.1,HO.out.2.2.2.2.2⟩
theorem nodup_of(vl:List (LU×Int))(h:(vl.map Prod.fst).Nodup){s:LU}{z:Int}{j:Nat}(hj:vl[j]? = some (s,z)):∀ es':List (Value×Value),
  ( ((∀ p∈vsL vl,p.1≠.string ⟨s.toArray⟩)∧es'=vsL vl)∨∃ (j':Nat)(u:Value),(vsL vl)[j']? = some (.string ⟨s.toArray⟩,u)∧es'=(vsL vl).eraseIdx j')→es'=vsL (vl.eraseIdx j):=by
 intro es' h2;rcases h2 with⟨h2,_⟩ | ⟨j',u,h2,rfl⟩
 ·exact absurd rfl (h2 _ (List.mem_map.2 ⟨_,List.mem_of_getElem? hj,rfl⟩))
 ·obtain⟨z',h3,_⟩:=xk2 h2
  have e1:(vl.map Prod.fst)[j]? = some s:=by rw[List.getElem?_map,hj];rfl
  have e2:(vl.map Prod.fst)[j']? = some s:=by rw[List.getElem?_map,h3];rfl
  obtain rfl:=xfm h e1 e2;unfold vsL;rw[xhp]
theorem vs_pru(h:DcV D w gd gs g gv gm σ vs vf vl root)(R R':List Int)(hI:σ.Inv R [])(hnd:(vl.map Prod.fst).Nodup)(s:LU)(hs:s.length≤20)(z:Int)(t:Tre)(ht:IsT σ z 0 t)(j:Nat)(hj:vl[j]? = some (s,z))(hR:xmk R R' z)(h1:R.length≤1073741824)(h2:R'.length≤1073741824) :
  Calls prog 126 #[pG gv,.string ⟨s.toArray⟩] w (PruO D w gd gs g gv gm σ (vl.eraseIdx j) root R' mkA):=by
 have HH:=hZ h;have hgv:Old w gv:=h.vb.lt;have hv1:=h.v1
 obtain⟨kl,hkl⟩:=key9 ⟨s.toArray⟩ (by
  show s.toArray.size≤maxLen;have e:s.toArray.size=s.length:=by simp
  rw[e];unfold maxLen;omega)
 have HKL:=hZ hkl;have HKO:=hZ (xn1 h.short);have HNO:=hZ (nodup_of vl hnd hj);refine Xft ?_;intro CR;have CD:∀ u gd vl,DcV D u gd gs g gv gm σ vs vf vl root→Hid (Calls prog 184 #[pG gv,iV z] u (GoneO D u gs g σ R')):=fun u gd vl hu=>hZ (vs_drop hu R R' hI z t ht hR h1 h2)
 clear h hI ht hnd hj hR hkl;obtain⟨w0,rfl,HL⟩:=lS w;go_enter func126,ntmps126;go_upto_region 0 with fail;refine X2y ?_;go_upto_region 1 with fail;refine X2j ?_;intro K hK;refine Xfu ?_;refine Xfv ?_;rintro e w ⟨rfl,rfl⟩;refine X7l ?_;clear hK K;go_upto_region 2 with fail;refine Xew ?_;clear HL;have HL:=Loc.start w0;go_upto_region 4 with fail;refine Xfq ?_;refine X42 ?_;intro K hK;refine xup (key:=.string ⟨s.toArray⟩) HH.out.mp law9 underlying257 HKO.out HKL.out (.tmp 20) (.tmp 21) rfl rfl rfl ?_;intro w es' hM hG hE;obtain rfl:=HNO.out _ hE;refine hK _ _ ?_;clear hK K hE;have HM:=hZ hM;have HG:=hZ hG;clear hM hG HL;refine X17 ?_;have HF:Hid (Fr (· = gm) w0 w):=hZ ((Fr.refl _ _).grown HG.out (fun k hk=>.inl (by cases hk;rfl)))
 have HD:Hid (DcV D w gd gs g gv gm σ vs vf (vl.eraseIdx j) root):=hZ (by
  have hd:=HH.out;have hf:=HF.out
  exact⟨hd.blk.fr hf (fun e=>hd.mp.ne_blk hd.blk e.symm),hd.st.fr hf (fun k hk e=>hd.fm (by rw[← e];exact hk)),hd.vb.fr hf (fun e=>hd.mp.ne_blk hd.vb e.symm),HM.out,hd.fd,hd.fv,hd.fm,fun x hx=>hd.short x ((List.eraseIdx_sublist _ _).subset hx)⟩)
 have HL:=Loc.start w;go_upto_region 5 with fail;refine X2j ?_;intro K hK;refine xad cf184 rfl _ rfl ?_;refine X1w ?_;(with_reducible refine((CD _ _ _ (HD.out.below HL.below)).out).mono ?_);rintro e w ⟨m,D',vs',vf',σ',rfl,hP,hS,hI,hY,hu,hr⟩;have HO:=hZ (And.intro ((HD.out.below HL.below).turned hS hP) (And.intro ((Stp.of_below HL.below).trans hS) (And.intro hI (And.intro hY (And.intro hu hr)))));clear hP hS hI hY hu hr;refine X5k ?_;clear hK K;refine X1f ?_;clear HL;go_wp2_with fail;go_ret2;exact⟨m,D',vs',vf',σ',rfl,HO.out.1,stp_dA ((Stp.of_fr HF.out (fun k hk=>.inr hk)).trans (stp_or HO.out.2.1)),HO.out.2.2.1,HO.out.2.2.2.1,HO.out.2.2.2.2.1,HO.out.2.2.2.2.2⟩
end
section
variable {D:Nat→Prop}{w w':World}{gd gs g gv gm:Nat}{σ:Sb}{vs vf:Sv}{vl:List (LU×Int)}{root:Int}
theorem xln(h:StW D w gs σ)(hr:1≤σ.room):Calls prog 92 #[pG gs] w fun e w'=>∃ gv gm,e=.returned (.tuple #[pG gv,iV 0])∧Blk w' gv 259 [pG gs,.map (some gm)]∧MapP w' gm []∧w.heap.size≤gv∧w.heap.size≤gm∧Bw w w':=by
 have HH:=hZ h;have k1:((σ.room:Int)==0)=false:=by simp;omega
 clear h;obtain⟨w0,rfl,HL⟩:=lS w;go_enter func92,ntmps92;go_upto_region 0 with fail;refine X2y ?_;go_upto_region 1 with fail;refine X80 ?_;intro K hK;refine X9v ?_;rintro e w ⟨rfl,rfl⟩;refine X5k ?_;clear hK K;refine X9w ?_;refine X1z ?_;go_upto_region 3 with fail;refine X12 ?_;refine xst rfl rfl HL ?_;intro g8 w1 HL1 hM hge hne;have HG:Hid (w0.heap.size≤g8):=hZ (Nat.le_trans HL.below.size hge);have HM:∀ (L:BL) u,Loc w1 (Old w1) L u→Hid (MapP u g8 []):=fun L u hu=>hZ (hM.below hu.below)
 have HB1:=hZ HL1.below;clear HL hM hge hne HL1;have HL:=Loc.start w1;obtain⟨w,rfl⟩:∃ w,w=w1:=⟨_,rfl⟩;obtain⟨w1,rfl⟩:=eW w;refine X9x ?_;refine X6 ?_;refine X9y ?_;clear HL;intro g10 w HL;refine X1g ?_;go_wp2_with fail;go_ret2;have ho:=(HL.own _ (.head _));have hs1:=HB1.out.size;refine⟨g10,g8,rfl,HL.blk (.head _),(HM _ _ HL).out,?_,HG.out,HB1.out.trans (HL.below.mono hs1)⟩;have:=ho.1;unfold Old at this;omega
theorem xuy(r:Nat)(h1:1≤r)(h2:r≤65536):Calls prog 36 #[iV r] w fun e w'=>∃ gd gs g gv gm D,e=.returned (.tuple #[pG gd,iV 0])∧DcV D w' gd gs g gv gm ⟨[],[],r,0⟩ Sv.nil Sv.nil [] 0∧(∀ k,dA D gd gv gm k→w.heap.size≤k)∧Bw w w':=by
 obtain⟨w0,rfl,HL⟩:=lS w;go_enter func36,ntmps36;go_upto_region 0 with fail;refine X2y ?_;go_upto_region 1 with fail;refine X1v ?_;intro K hK;refine xad cf91 rfl _ rfl ?_;refine X1w ?_;(with_reducible refine(xl8 r h1 h2).mono ?_);rintro e w ⟨gs,g,D,rfl,hst,hnew,hb⟩;refine X9z ?_;intro hB1 hnew2;clear HL hb hnew;have HL:=Loc.start w;obtain⟨w1,rfl⟩:=eW w;refine X7l ?_;clear hK K;go_upto_region 2 with fail;refine X2n ?_;have HB1:=hZ hB1;clear hB1;go_upto_region 4 with fail;refine X1v ?_;intro K hK;refine xad cf92 rfl _ rfl ?_;refine X1w ?_;(with_reducible refine(xln (hst.below HL.below).sw h1).mono ?_);rintro e w ⟨gv,gm,rfl,hvb,hmp,hgv,hgm,hb⟩;have HS:Hid (w1.heap.size≤gv∧w1.heap.size≤gm):=hZ ⟨Nat.le_trans HL.below.size hgv,Nat.le_trans HL.below.size hgm⟩
 have HST:∀ (L:BL) u,Loc w (Old w) L u→Hid (StP D u gs g ⟨[],[],r,0⟩ Sv.nil Sv.nil∧Blk u gv 259 [pG gs,.map (some gm)]∧MapP u gm []):=fun L u hu=>hZ ⟨((hst.below HL.below).below hb).below hu.below,hvb.below hu.below hvb.lt,hmp.below hu.below⟩
 have HB2:Hid (Bw w1 w):=hZ (HL.below.trans (hb.mono HL.below.size));have HLT:Hid (∀ k,D k→k<w1.heap.size):=hZ (fun k hk=>hst.sb.lt k hk);clear HL hb hvb hmp hgv hgm;have HL:=Loc.start w;obtain⟨w2,rfl⟩:=eW w;refine X7l ?_;clear hK K;go_upto_region 5 with fail;refine X2n ?_;go_upto_region 7 with fail;refine Xa0 ?_;refine Xa1 ?_;refine X6 ?_;refine xcs rfl _ rfl HL _ rfl ?_;clear HL;intro g27 w HL;refine X1g ?_;go_wp2_with fail;go_ret2;have hgd:=HL.own _ (.head _)
 have hgd1:w2.heap.size≤g27:=by
  have:=hgd.1;unfold Old at this;omega
 have hs1:=HB1.out.size;have hs2:=HB2.out.size;have hs3:=HL.below.size;obtain⟨q1,q2,q3⟩:=(HST _ _ HL).out;refine⟨g27,gs,g,gv,gm,D,rfl,⟨hgd.2,q1,q2,q3,fun hk=>?_,fun hk=>?_,fun hk=>?_,fun x hx=>by cases hx⟩,?_,HB1.out.trans ((HB2.out.trans (HL.below.mono hs2)).mono hs1)⟩
 ·have:=HLT.out _ hk;omega
 ·have:=HLT.out _ hk;have:=HS.out.1;omega
 ·have:=HLT.out _ hk;have:=HS.out.2;omega
 ·rintro k (hk | rfl | rfl | rfl)
  ·exact hnew2 k hk
  ·omega
  ·have:=HS.out.1;omega
  ·have:=HS.out.2;omega
theorem dc_rootV{nm:Value}(h:DcP D w gd gs g σ vs vf nm root)(x:D32)(hX:∀ u,StW D u gs σ→Calls prog 83 #[pG gs,iV root] u (oB u x.a)):Calls prog 29 #[pG gd,.string ⟨#[]⟩] w (oB w (.tuple #[x.a,iV 0])):=by
 have HH:=hZ h;have hc1:=h.c1;have HX:=hZ hX;clear h hX;have hgd:Old w gd:=HH.out.blk.lt;obtain⟨w0,rfl,HL⟩:=lS w;go_enter func29,ntmps29;go_upto_region 0 with fail;refine Xt ?_;refine xah zr23 rfl rfl HL ?_;clear HL;intro g4 w HL;refine X1a ?_;go_upto_region 1 with fail;refine X2j ?_;intro K hK;refine Xf6 ?_;refine Xf7 ?_;rintro e w ⟨rfl,rfl⟩;refine X7l ?_;clear hK K;go_upto_region 2 with fail;refine X2n ?_;go_upto_region 4 with fail;refine Xf4 ?_;refine X6 ?_;refine xaa rfl _ (xa8 xl1 HL _ rfl _ rfl _ hgd hc1) ?_;refine X42 ?_;intro K hK;refine X77 ?_;(with_reducible refine(HX.out _ (HH.out.st.sw.below HL.below)).mono ?_);refine X4y ?_;clear hK K;intro w HL;refine X4z ?_;refine X4c ?_;clear HL;intro w HL;go_wp2_with fail;refine Xf8 ?_;exact⟨rfl,HL.below⟩
theorem dig_ok{t:Tre}{u:World}(hu:StW D u gs σ)(ht:IsT σ root 0 t):Calls prog 83 #[pG gs,iV root] u (oB u t.dg.a):=by
 by_cases hz:root=0
 ·subst hz
  rw[ht.zero];exact xfz hu
 ·obtain⟨i,hi,hzi,hc,hd,_⟩:=ht.nz hz
  rw[← hd];exact xfi hu root σ.slots[i].nd σ.slots[i].val (.inl ⟨rfl,i,hzi,hi,rfl,rfl,hc⟩)
end
theorem inv_new(r:Nat)(h1:1≤r)(h2:r≤65536):(⟨[],[],r,0⟩:Sb).Inv [] [] where
 ok:=⟨h1,h2,rfl,Nat.zero_le _,fun n hn=>by cases hn⟩
 nice:=⟨List.nodup_nil,fun n hn=>by cases hn⟩
 count:=fun i h=>absurd h (Nat.not_lt_zero _)
 held:=fun i h=>absurd h (Nat.not_lt_zero _)
 free:=fun i h=>absurd h (Nat.not_lt_zero _)
 used:=rfl
 root:=fun z hz=>by cases hz
 todo:=fun z hz=>by cases hz
 left:=fun i h=>absurd h (Nat.not_lt_zero _)
 right:=fun i h=>absurd h (Nat.not_lt_zero _)
def rt1(z:Int)(R:List Int):List Int:=if z=0 then R else z::R
section
variable {S:Nat→Prop}{w w':World}{gd u:Nat}{told t:Tre}
theorem RawT.weak{D S:Nat→Prop}{A:Option Addr}{n c:Nat}{rs:List RE}(h:RawT S w A n c rs)(hs:∀ k,D k→S k):RawT D w A n c rs :=
 ⟨h.rd,h.len,h.cap,h.kt,h.vt,fun e he hne ad ha hk=>h.dv e he hne ad ha (hs _ hk)⟩
theorem xd5(z:Int)(R:List Int):(rt1 z R).length≤R.length+1:=by unfold rt1;split<;>simp
end
section
variable {Y:Nat→Prop}{w w':World}{gk:Nat}{b:Sv}{l:LU}{s:Nat}
end
section
variable {Y:Nat→Prop}{w w':World}{gk:Nat}{b:Sv}{l:LU}{s:Nat}
end
section
variable {P:Program}{w:World}{o:Oper}{a:Act}{Q:Exit→Act→World→Prop}{K:Act→World→Prop}
end
section
variable {w1 w:World}{D:Nat→Prop}{L:BL}
end
section
variable {w1 w:World}{D:Nat→Prop}{L:BL}
end
abbrev Hs:=List (List RE×Tre)
theorem xuz{w0 w w':World}{S S':Nat→Prop}(h:Bw w0 w)(hs:Stp S w S' w')(hS:∀ k,S k→w0.heap.size≤k):Bw w0 w' :=
 Fr.to_below (S:=fun k=>w0.heap.size≤k) ((Fr.of_below h).trans (S:=fun k=>w0.heap.size≤k) ⟨hs.fr.os,hs.fr.tape,hs.fr.output,hs.fr.size,fun k hk hn=>hs.fr.block k hk (fun n=>hn (hS k n))⟩) (fun k hk hn=>absurd hn (by omega))
section
variable {Y S:Nat→Prop}{w w':World}{gj gk gd:Nat}{b:Sv}{l:LU}{s n u:Nat}{t:Tre}
end
theorem Fr.sup{S T:Nat→Prop}{a b:World}(h:Fr S a b)(hs:∀ k,S k→T k):Fr T a b:=⟨h.os,h.tape,h.output,h.size,fun k hk hn=>h.block k hk (fun n=>hn (hs k n))⟩
theorem Rd.inside{w:World}{A:Option Addr}{cs:List Value}(h:Rd w A cs)(hne:cs≠[]):∀ ad,A=some ad→ad.block<w.heap.size:=fun ad e=>by
 obtain⟨ad',e',hc⟩:=h (List.length_pos_iff.2 hne);rw[e] at e';cases e';have:=World.block_lt_of_cell? _ _ (hc 0 _ (List.getElem?_eq_getElem (List.length_pos_iff.2 hne)));rwa [show(ad.add 0).block=ad.block by unfold Addr.add;split<;>rfl] at this
theorem Rd.frE{S:Nat→Prop}{a b:World}{A:Option Addr}{cs:List Value}(h:Rd a A cs)(hf:Fr S a b)(hA:cs≠[]→∀ ad,A=some ad→¬ S ad.block):Rd b A cs:=by
 by_cases hne:cs = []
 ·rw[hne];intro hn;simp at hn
 ·exact h.fr hf (hA hne)
theorem ne_rows{rs:List RE}(h:rs≠[]):((rs.map RE.r).flatMap Rw.cells)≠[]:=by
 cases rs with
 | nil=>exact absurd rfl h
 | cons x l=>simp[Rw.cells]
theorem ne_bvs{l:LU}:bvs l≠[]↔l≠[]:=by unfold bvs;simp
def RawF(T:Nat→Prop)(A:Option Addr)(rs:List RE):Prop:=(rs≠[]→∀ ad,A=some ad→¬ T ad.block)∧∀ e∈rs,(e.k≠[]→∀ ad,e.r.key.A=some ad→¬ T ad.block)∧(e.v≠[]→∀ ad,e.r.val.A=some ad→¬ T ad.block)
theorem RawF.raw{D:Nat→Prop}{w:World}{A:Option Addr}{n c:Nat}{rs:List RE}{D':Nat→Prop}(h:RawT D w A n c rs)(hF:RawF D' A rs):RawT D' w A n c rs :=
 ⟨h.rd,h.len,h.cap,h.kt,h.vt,fun e he hne ad ea=>(hF.2 e he).2 hne ad ea⟩
section
variable {Y Y' S S2 S3:Nat→Prop}{w0 w2 w4 w5 w6 w7:World}{gj gk gd:Nat}{b b':Sv}{l l':LU}{s n n' u u':Nat}{t t' told:Tre}
end
section
variable {Y S:Nat→Prop}{w w':World}{gj gk gd:Nat}{b:Sv}{l:LU}{s n u:Nat}{t:Tre}
end
section
variable {w0 wb w w':World}{D1 X X':Nat→Prop}{L:BL}
end
section
variable {Y S:Nat→Prop}{w0 wb w w':World}{gj gk gd:Nat}{b:Sv}{l:LU}{s n u:Nat}{t:Tre}{D1:Nat→Prop}{L:BL}
end
theorem RawT.take{D:Nat→Prop}{w:World}{A:Option Addr}{n c:Nat}{rs:List RE}(h:RawT D w A n c rs)(m:Nat)(hm:m≤n):RawT D w A m c (rs.take m):=by
 have hl:=h.len;refine⟨?_,by rw[List.length_take];omega,by have:=h.cap;omega,fun e he=>h.kt e (List.mem_of_mem_take he),fun e he=>h.vt e (List.mem_of_mem_take he),fun e he=>h.dv e (List.mem_of_mem_take he)⟩;have h1:=h.rd.take (m*3)
 have e:(((rs.take m).map RE.r).flatMap Rw.cells)=((rs.map RE.r).flatMap Rw.cells).take (m*3):=by
  rw[List.map_take];have h2:(rs.map RE.r).flatMap Rw.cells=((rs.map RE.r).take m).flatMap Rw.cells++((rs.map RE.r).drop m).flatMap Rw.cells:=by rw[← List.flatMap_append,List.take_append_drop]
  rw[h2,List.take_left'];rw[xc5 Rw.len _ m (by rw[List.length_map];omega)]
 rw[e];exact h1
theorem RawF.old{D X:Nat→Prop}{w0:World}{A:Option Addr}{n c:Nat}{rs:List RE}(h:RawT D w0 A n c rs)(hx:∀ k,X k→w0.heap.size≤k):RawF X A rs :=
 ⟨fun hne ad e hk=>by have h1:=h.rd.inside (ne_rows hne) ad e;have h2:=hx _ hk;omega,fun e he=>⟨fun hne ad e2 hk=>by have h1:=(h.kt e he).rd.inside (ne_bvs.2 hne) ad e2;have h2:=hx _ hk;omega,
  fun hne ad e2 hk=>by have h1:=(h.vt e he).rd.inside (ne_bvs.2 hne) ad e2;have h2:=hx _ hk;omega⟩⟩
end Go.Proofs.YtkjjdgnkelchfaaGreat
namespace Go.Proofs.YtkjjdgnkelchfaaGreat
open Go Go.RowKit Go.ChangeShapes Go.WideShapes Go.ChangeAt Go.Proofs.Tryz
theorem i64_wf{z:Int}(h:(Lit.int .i64 z).wf=true) : -9223372036854775808≤z∧z≤9223372036854775807:=by
 simpa[Lit.wf,IntKind.min,IntKind.max,IntKind.signed,IntKind.bits] using h
instance :Inhabited RE:=⟨⟨Rw.z,[],[]⟩⟩
instance :Inhabited (Sv×List RE):=⟨⟨Sv.nil,[]⟩⟩
section
variable {H:Type}{enc:TypeId×Value→H}{P:Program}{W:World}{base:Nat}
def WOk(P:Program)(t:TypeId)(d:DataW H):Prop:=∀ n∈d.weights P t,n≤reachBytes
theorem wall{e:TypeId}:∀ {l:List (DataW H)},(∀ n∈DataW.weightsAll P e l,n≤reachBytes)→∀ d∈l,WOk P e d
 | [],_,d,hd=>by cases hd
 | x::l,h,d,hd=>by
  have h1:∀ n∈x.weights P e++DataW.weightsAll P e l,n≤reachBytes:=by
   intro n hn;exact h n (by unfold DataW.weightsAll;exact hn)
  rcases List.mem_cons.1 hd with rfl | hd
  ·exact fun n hn=>h1 n (List.mem_append.2 (.inl hn))
  ·exact wall (fun n hn=>h1 n (List.mem_append.2 (.inr hn))) d hd
theorem xiw{t e:TypeId}{es sp:List (DataW H)}(hu:P.underlying t=some (.slice e))(h:WOk P t (.slice es sp)):(es.length+sp.length)*P.bytesOf e≤reachBytes∧∀ d∈es,WOk P e d:=by
 have h1:∀ n∈(es.length+sp.length)*P.bytesOf e::(DataW.weightsAll P e es++DataW.weightsAll P e sp),n≤reachBytes:=by
  intro n hn;refine h n ?_;unfold DataW.weights;rw[hu];exact hn
 exact⟨h1 _ (.head _),wall fun n hn=>h1 n (.tail _ (List.mem_append.2 (.inl hn)))⟩
theorem wstruct3{t:TypeId}{f0 f1 f2:Field}{x0 x1 x2:DataW H}(hu:P.underlying t=some (.struct #[f0,f1,f2]))(h:WOk P t (.agg [x0,x1,x2])):WOk P f0.type x0∧WOk P f2.type x2:=by
 have h1:∀ n∈x0.weights P f0.type++(x1.weights P f1.type++(x2.weights P f2.type++[])),n≤reachBytes:=by
  intro n hn;refine h n ?_;unfold DataW.weights;rw[hu];simp only[qk,ql];simp only[DataW.weightsEach];exact hn
 exact⟨fun n hn=>h1 n (List.mem_append.2 (.inl hn)),fun n hn=>h1 n (by simp[hn])⟩
theorem xgj{T E S:TypeId}(B:BT P T E S)(hc:P.cellsOf E=1)(hb:P.bytesOf E=1){fuel:Nat}{cs:List Value}{x:DataW H×List MemPlace}(hf:DataW.trod enc P W 0 (fun _=>true) true fuel T cs=some x)(hw:WOk P T x.1) :
  ∃ (s:Sv)(l:LU),cs = [s.v]∧Tx W s.A s.n s.c l∧s.c≤140737488351232:=by
 rcases open_ints B.t B.e hc hf with⟨rfl,hx⟩ | ⟨a,n,c,zs,rfl,_,hl,hm,hz,hx,hcell,hwz⟩
 ·exact⟨Sv.nil,[],rfl,⟨rfl,Nat.le_refl _,by show 0≤maxLen;omega,Rd.nil _ _,fun _ _ h=>h⟩,by show 0≤_;omega⟩
 ·simp only[if_true] at hz
  have hsz:c≤reachBytes:=by
   rw[hx] at hw;have h1:=(xiw B.t hw).1;rw[hb] at h1;simp[lits] at h1;omega
  refine⟨⟨some a,n,c⟩,(zs.take n).map fun z=>UInt8.ofNat z.toNat,rfl,⟨by simp;omega,hl,hm,fun _=>⟨a,rfl,fun j u hu=>?_⟩,fun _ _ h=>h⟩,by simpa[reachBytes] using hsz⟩
  have hj:j<n:=by
   have:=(List.getElem?_eq_some_iff.1 hu).1;simp[bvs] at this;omega
  have hjz:j<zs.length:=by omega
  rw[hcell j hjz];simp only[bvs,List.map_map,List.getElem?_map,List.getElem?_take_of_lt hj,List.getElem?_eq_getElem hjz,Option.map_some,Function.comp] at hu;rw[← hu,← xi1 (hwz _ (List.getElem_mem hjz))];simp[hjz]
theorem xs8{α:Type}[Inhabited α]{g:α→List Value}{z:Nat}(hz:∀ x,(g x).length=z)(hz0:0<z){a:Addr}{n:Nat}(f:Nat→α)(h:∀ i,i<n→W.cells? 0 (a.add (i*z)) z=some (g (f i))):Rd W (some a) (((List.range n).map f).flatMap g):=by
 refine fun _=>⟨a,rfl,fun j u hu=>?_⟩
 have hj:j<n*z:=by
  have h1:=(List.getElem?_eq_some_iff.1 hu).1;rw[xaw hz] at h1;simpa using h1
 have hq:j / z<n:=Nat.div_lt_of_lt_mul (by rw[Nat.mul_comm];exact hj);have hjz:j / z*z+j%z=j:=Nat.div_add_mod' j z;have h2:=xii hz ((List.range n).map f) [] (j / z) (j%z) (by simpa using hq) (Nat.mod_lt _ hz0);rw[List.append_nil,hjz,hu,List.getElem_map,List.getElem_range] at h2;have h1:=h (j / z) hq;obtain⟨_,_,h3⟩:=World.cells?_some h1;have h4:=h3 (j%z) (Nat.mod_lt _ hz0);rw[Deep.add_add,hjz] at h4;rw[h4];exact h2.symm
end
section
variable {H:Type}{enc:TypeId×Value→H}{P:Program}{W:World}{base:Nat}
def ReOk(W:World)(e:RE):Prop:=Tx W e.r.key.A e.r.key.n e.r.key.c e.k∧Tx W e.r.val.A e.r.val.n e.r.val.c e.v∧e.k.length≤140737488351232
theorem raw_at{E T Q S:TypeId}{f0 f1 f2:Field}(B:BT P T Q S)(hc:P.cellsOf Q=1)(hb:P.bytesOf Q=1)(he:P.underlying E=some (.struct #[f0,f1,f2]))(o0:f0.offset=0)(o1:f1.offset=1)(o2:f2.offset=2)
  (t0:f0.type=T) (t2:f2.type=T) (u1:P.underlying f1.type=some .bool) (cT:P.cellsOf T=1) (c1:P.cellsOf f1.type=1)
  {fuel:Nat} {cs:List Value} {x:DataW H×List MemPlace} (hl:cs.length=3) (hf:DataW.trod enc P W 0 (fun _=>true) true fuel E cs=some x) (hw:WOk P E x.1):∃ e:RE,cs=e.r.cells∧ReOk W e:=by
 obtain⟨xs,n,_,rfl,_,hlen,hff⟩:=DataW.trod_struct he hf
 match xs,hlen with
 | [y0,y1,y2],_ =>
  have hws:=wstruct3 he hw;have h0:=hff 0 f0 rfl;have h1:=hff 1 f1 rfl;have h2:=hff 2 f2 rfl;simp only[qd,qc] at h0 h1 h2;rw[o0,t0,cT] at h0;rw[o1,c1] at h1;rw[o2,t2,cT] at h2;rw[t0,t2] at hws;obtain⟨sk,k,ek,hk,hkb⟩:=xgj B hc hb h0 hws.1;obtain⟨g,eg,_⟩:=DataW.trod_bool u1 h1;obtain⟨sv,v,ev,hv,_⟩:=xgj B hc hb h2 hws.2;refine⟨⟨⟨sk,g,sv⟩,k,v⟩,?_,hk,hv,?_⟩
  ·match cs,hl with
   | [a0,a1,a2],_ =>
    simp only[List.drop_zero,List.drop_succ_cons,List.take_succ_cons,List.take_zero,List.cons.injEq,and_true] at ek eg ev;rw[ek,eg,ev];rfl
  ·have h3:=hk.len
   have h4:=hk.cap;show k.length≤_;omega
theorem raws_at{R E T Q S:TypeId}{f0 f1 f2:Field}(hR:P.underlying R=some (.slice E))(cE:P.cellsOf E=3)(B:BT P T Q S)(hc:P.cellsOf Q=1)(hb:P.bytesOf Q=1)(he:P.underlying E=some (.struct #[f0,f1,f2]))(o0:f0.offset=0)(o1:f1.offset=1)(o2:f2.offset=2)
  (t0:f0.type=T) (t2:f2.type=T) (u1:P.underlying f1.type=some .bool) (cT:P.cellsOf T=1) (c1:P.cellsOf f1.type=1)
  {fuel:Nat} {cs:List Value} {x:DataW H×List MemPlace} (hf:DataW.trod enc P W 0 (fun _=>true) true fuel R cs=some x) (hw:WOk P R x.1):∃ y:Sv×List RE,cs = [y.1.v]∧RawT (fun _=>False) W y.1.A y.1.n y.1.c y.2∧∀ e∈y.2,e.k.length≤140737488351232:=by
 rcases Deep.open_slice hR hf with⟨rfl,hx⟩ | ⟨a,n,c,m,k,D,Pl,rfl,_,hl,hm,hmm,hx,hi⟩
 ·exact⟨(Sv.nil,[]),rfl,⟨Rd.nil _ _,rfl,Nat.le_refl _,fun e he=>(by cases he),fun e he=>(by cases he),fun e he=>(by cases he)⟩,fun e he=>by cases he⟩
 ·simp only[if_true] at hmm
  subst m;rw[cE] at hi
  have hwE:∀ i,i<n→WOk P E (D i):=fun i hin=>by
   rw[hx] at hw;exact(xiw hR hw).2 _ (List.mem_map.2 ⟨i,List.mem_range.2 hin,rfl⟩)
  obtain⟨f,hfn⟩:=Deep.choose_lt (p:=fun i (e:RE)=>W.cells? 0 (a.add (i*3)) 3=some e.r.cells∧ReOk W e) (n:=n) (fun i hin=>by
   obtain⟨cs',h1,h2⟩:=hi i (by omega);obtain⟨_,hlen,_⟩:=World.cells?_some h1;obtain⟨e,rfl,h3⟩:=raw_at B hc hb he o0 o1 o2 t0 t2 u1 cT c1 hlen h2 (hwE i hin)
   exact⟨e,h1,h3⟩)
  have hin:∀ e∈(List.range n).map f,ReOk W e:=fun e he=>by
   obtain⟨i,hi',rfl⟩:=List.mem_map.1 he;exact(hfn i (List.mem_range.1 hi')).2
  refine⟨(⟨some a,n,c⟩,(List.range n).map f),rfl,⟨?_,by simp,hl,fun e he=>(hin e he).1,fun e he=>(hin e he).2.1,fun e he hne ad ea hk=>hk.elim⟩,fun e he=>(hin e he).2.2⟩;have:=xs8 (W:=W) (g:=fun e:RE=>e.r.cells) (z:=3) (fun e=>Rw.len e.r) (by decide) f (fun i hin=>(hfn i hin).1);rw[List.flatMap_map];exact this
end
end Go.Proofs.YtkjjdgnkelchfaaGreat
namespace Go.Proofs.YtkjjdgnkelchfaaGreat
open Go Go.RowKit Go.Proofs.Tryz
section
variable {P:Program}{T:TypeId}{w:World}
theorem xex{n:Nat}(B:AT P T n)(cs vs:List Value)(off:Nat)(e:(cs.drop off).take n=vs):(part T cs.toArray off).run P w=.ok (.agg vs.toArray) w:=by
 obtain⟨d,hd,hr⟩:=B.u;have hs:=B.i;subst e
 cases hq:P.info? T with
 | none=>simp[hq] at hs
 | some j =>
  have hj:j.size=n:=by simpa[hq] using hs
  have ha:(isAgg T).run P w=.ok true w:=by
   unfold isAgg;simp only[Sem.run_bind,run_underlying hd,Result.andThen_ok];cases d<;>simp_all
  have hz:(sizeOf T).run P w=.ok n w:=by simp[sizeOf,typeInfo,hq,hj]
  unfold part;simp only[Sem.run_bind,ha,Result.andThen_ok,if_true,hz,Sem.run_pure];simp[List.extract_eq_take_drop]
theorem xml(B:W1 P T)(cs:List Value)(v:Value)(off:Nat)(e:cs[off]? = some v):(part T cs.toArray off).run P w=.ok v w:=by
 obtain⟨d,hd,hr⟩:=B.u
 have ha:(isAgg T).run P w=.ok false w:=by
  unfold isAgg;simp only[Sem.run_bind,run_underlying hd,Result.andThen_ok];cases d<;>first | rfl | simp_all[TypeDesc.isRow]
 unfold part;simp only[Sem.run_bind,ha,Result.andThen_ok,Bool.false_eq_true,if_false,qb,e,Sem.run_pure]
def fkey(f:Field):String×TypeId×Nat:=(f.name,f.type,f.offset)
theorem xee{fs:List Field}{nm:String}{t off:Nat}{rest:List (String×TypeId×Nat)}(h:fs.map fkey=(nm,t,off)::rest)(hn:nm≠ "_")(d:Nat)(xs ys:Array Value)(a b:Value)(r q:Bool)
  (ha:(part t xs off).run P w=.ok a w) (hb:(part t ys off).run P w=.ok b w) (hr:(Op.equalIn d t a b).run P w=.ok r w) (hq:∀ fs':List Field,fs'.map fkey=rest→(Op.eqFields d xs ys fs').run P w=.ok q w) :
  (Op.eqFields d xs ys fs).run P w=.ok (r&&q) w:=by
 cases fs with
 | nil=>simp at h
 | cons f fs' =>
  simp only[qk,List.cons.injEq,fkey,Prod.mk.injEq] at h;obtain⟨⟨h1,h2,h3⟩,h4⟩:=h;subst h1 h2 h3;simp only[Op.eqFields,if_pos hn,Sem.run_bind,ha,hb,hr,Result.andThen_ok];cases r
  ·simp
  ·simpa using hq fs' h4
theorem xn3{fs:List Field}(h:fs.map fkey = [])(d:Nat)(xs ys:Array Value):(Op.eqFields d xs ys fs).run P w=.ok true w:=by
 cases fs with
 | nil=>simp[Op.eqFields]
 | cons f fs=>simp at h
theorem xrd{n:Nat}(B:AB P T n)(d:Nat)(x y:D32)(hn:n=32):(Op.equalIn (d+2) T (.agg x.c.toArray) (.agg y.c.toArray)).run P w=.ok (x.l==y.l) w:=by
 obtain⟨e,h1,h2,h3⟩:=B.u
 have hsz:∀ w,(sizeOf e).run P w=.ok 1 w:=by
  intro w;obtain⟨i,hi,he⟩:=Option.map_eq_some_iff.1 h3;simp[sizeOf,typeInfo,hi,he]
 exact run_equalIn_bytes w d T e n h1 h2 hsz x.l y.l (by rw[hn];exact x.h) (by rw[hn];exact y.h)
end
section
variable {w w':World}
end
section
variable {w w':World}
end
section
variable {w w':World}
end
structure Sds (w:World)(v:Sv)(ds:List D32):Prop where
 rd:Rd w v.A (ds.flatMap D32.c)
 len:ds.length=v.n
 cap:v.n≤v.c
theorem splice_d{w:World}{g:Nat}{x y:D32}(h:Blk w g 23 (splice x.c 0 y.c)):Blk w g 23 y.c:=by
 have e:splice x.c 0 y.c=y.c:=by simp[splice,D32.cl]
 rwa [e] at h
section
variable {w w':World}
end
section
variable {w w':World}
end
section
variable {P:Program}{T E:TypeId}{z:Nat}{w:World}{o:Oper}{a:Act}
theorem xlo(B:ST P T E z)(A:Option Addr)(n c l h:Nat)(k k':IntKind)(hl:l≤h)(hh:h≤c):(Instr.slice T (.slice A n c) (some (.int k (l:Int))) (some (.int k' (h:Int))) none).run P w=.ok (.slice (cutA A c l z) (h - l) (c - l)) w:=by
 have e:P.elem T=E:=by simp[Program.elem,B.t]
 rw[run_slice_lh w T A n c (by rw[e];exact B.t) k k' l h (by omega) (by omega) (by omega),e,B.size];simp[Result.andThen,sliced,cutA]
theorem xk3(B:ST P T E z)(x lo hi:Operand)(ho:o.op=.slice T x (some lo) (some hi) none)(A:Option Addr)(n c l h:Nat)(k k':IntKind)(hx:a.eval x=.slice A n c)(hl:a.eval lo=.int k (l:Int))(hh:a.eval hi=.int k' (h:Int))
  (h1:l≤h) (h2:h≤c):(execOp a.eval o).run P w=.ok (.value (.slice (cutA A c l z) (h - l) (c - l))) w:=by
 have hr:=xlo (w:=w) B A n c l h k k' h1 h2;have e:P.elem T=E:=by simp[Program.elem,B.t]
 unfold execOp;simp only[ho,hx,Option.map_some,hh,hl,Option.map_none,Sem.run_bind,run_sliceAt_slice w T _ _ _ _ (by rw[e];exact B.t),hr,Result.andThen_ok,Sem.run_pure]
end
section
variable {w w':World}
end
section
variable {w w':World}
end
section
variable {w w':World}
end
section
variable {w w':World}
end
section
variable {w w' w0:World}{D:Nat→Prop}
end
end Go.Proofs.YtkjjdgnkelchfaaGreat
namespace Go.Proofs.YtkjjdgnkelchfaaGreat
end Go.Proofs.YtkjjdgnkelchfaaGreat
namespace Go.Proofs.YtkjjdgnkelchfaaGreat
open Go Go.RowKit Go.Proofs.Tryz
section
variable {P:Program}{w:World}{a:Act}{o:Oper}{t t':TypeId}
end
section
variable {w w':World}
end
section
variable {w w':World}
end
section
variable {w w':World}
end
section
variable {P:Program}{T:TypeId}{w0 w:World}{D:Nat→Prop}{L:BL}{o:Oper}{a:Act}{K:Act→World→Prop}{Q:Exit→Act→World→Prop}
theorem xe4{n:Nat}(hi:AT P T n)(x y:Operand)(ho:o.op=.store T x y)(H:Loc w0 D L w)(i g t:Nat)(cs vs:List Value)(hx:a.eval x=.pointer (some ⟨g,0,none⟩))(hL:L[i]? = some (g,t,cs))
  (hy:a.eval y=.agg vs.toArray) (hn:vs.length=n) (hc:cs.length=n) (h1:∀ u∈vs,u.oneCell'=true) (h:∀ w',Loc w0 D (L.set i (g,t,vs)) w'→K (a.put o.dst undef) w'):o.wp P a w K Q :=
 xfg hi x y ho H i g 0 t cs vs vs hx hL hy hn (by omega) h1 (by simp[splice,hn,hc]) h
end
section
variable {w w':World}
end
section
variable {w w':World}
end
def xpv(x y:Brv):Bool:=((x.kind:Int)==(y.kind:Int))&&((x.key.l==y.key.l)&&((x.val.l==y.val.l)&&((x.dig.l==y.dig.l)&&true)))
theorem eq_brv(x y:Brv)(w:World):(Op.equalIn 10000 124 (.agg x.cells.toArray) (.agg y.cells.toArray)).run prog w=.ok (xpv x y) w:=by
 have hF:(prog.fieldsOf 124).toList.map fkey = [("Kind",30,0),("Key",24,1),("Value",23,33),("Digest",23,65)]:=by kernel_rfl
 rw[run_equalIn_agg w 9999 124 _ _ (by kernel_rfl) (by kernel_rfl)];generalize (prog.fieldsOf 124).toList=fs at hF;refine xee hF (by decide) 9999 _ _ _ _ _ _ (xml sc30 _ _ _ (Brv.g_kind x)) (xml sc30 _ _ _ (Brv.g_kind y)) (run_equalIn_int w 9998 30 .u8 .u8 _ _ (by kernel_rfl)) fun fs1 h1=>?_
 refine xee h1 (by decide) 9999 _ _ _ _ _ _ (xex ag24 _ _ _ (Brv.g_key x)) (xex ag24 _ _ _ (Brv.g_key y)) (xrd ab23 9997 _ _ rfl) fun fs2 h2=>?_
 refine xee h2 (by decide) 9999 _ _ _ _ _ _ (xex ag23 _ _ _ (Brv.g_val x)) (xex ag23 _ _ _ (Brv.g_val y)) (xrd ab25 9997 _ _ rfl) fun fs3 h3=>?_
 refine xee h3 (by decide) 9999 _ _ _ _ _ _ (xex ag23 _ _ _ (Brv.g_dig x)) (xex ag23 _ _ _ (Brv.g_dig y)) (xrd ab25 9997 _ _ rfl) fun fs4 h4=>?_
 exact xn3 h4 _ _ _
theorem xk4{w:World}{a:Act}{o:Oper}{T':Nat}(x y:Operand)(ho:o.op=.binOp .eql 124 x y T')(p q:Brv)(ex:a.eval x=.agg p.cells.toArray)(ey:a.eval y=.agg q.cells.toArray)(b:Bool)(h:xpv p q=b) :
  (execOp a.eval o).run prog w=.ok (.value (.bool b)) w:=by
 have hg:(eqGuard .eql 124 x y (.agg p.cells.toArray) (.agg q.cells.toArray)).run prog w=.ok () w:=run_eqGuard_agg w .eql 124 x y _ _ (by kernel_rfl);unfold execOp;simp only[ho,ex,ey,Sem.run_bind,hg,Result.andThen_ok,run_eql_struct,eq_brv,Sem.run_pure,h]
section
variable {w w':World}
end
end Go.Proofs.YtkjjdgnkelchfaaGreat
