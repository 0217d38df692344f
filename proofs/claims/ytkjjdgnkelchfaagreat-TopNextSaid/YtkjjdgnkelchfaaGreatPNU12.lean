import Derived.Test.YtkjjdgnkelchfaaGreatPNU11
set_option linter.unusedSimpArgs false
set_option linter.unusedVariables false
set_option maxRecDepth 100000
set_option maxHeartbeats 16000000
namespace Go.Proofs.YtkjjdgnkelchfaaGreat
open Go Go.RowKit Go.Proofs.Tryz
theorem xcf{d:Nat}{t:Tre}(h:t.Ok d)(hk:t.keys = []):t=.nil:=by
 cases t with
 | nil=>rfl
 | leaf k v=>simp[Tre.keys] at hk
 | inner l r=>exact absurd hk (Tre.Ok.ne h rfl)
section
variable {D:Nat→Prop}{w w':World}{gs g:Nat}{σ:Sb}{vs vf:Sv}
theorem IsT.down{σ:Sb}{z:Int}{d d':Nat}{t:Tre}(h:IsT σ z d t)(hn:t.isIn=false):IsT σ z d' t:=by
 cases t with
 | nil=>exact h
 | leaf k v=>exact h
 | inner l r=>cases hn
theorem xio(h:StP D w gs g σ vs vf)(R R':List Int)(hI:σ.Inv R [])(d:Nat)(hd:d<256)(zl zr:Int)(l r:Tre)(hl:IsT σ zl (d+1) l)(hr:IsT σ zr (d+1) r)(hol:l.Ok (d+1))(hor:r.Ok (d+1))(hbl:∀ k∈l.keys,tb k.l d=false)(hbr:∀ k∈r.keys,tb k.l d=true)
  (hall:∀ k∈l.keys++r.keys,∀ k'∈l.keys++r.keys,∀ e,e<d→tb k.l e=tb k'.l e) (hR:∀ z,R.count z=R'.count z+(if z=zl∧zl≠0 then 1 else 0)+(if z=zr∧zr≠0 then 1 else 0)) (hRl:R.length≤536870912) (hroom:σ.used<σ.room) (hsz:l.size+r.size≤1000000) :
  Calls prog 228 #[pG gs,iV d,iV zl,iV zr] w (MadeT D w gs g σ R' d (xb1 l r) 1):=by
 have HH:=hZ h;by_cases hzl:zl=0
 ·subst hzl
  have:=hl.zero;subst this
  cases hri:r.isIn with
  | false =>
   obtain⟨n,val,ok,hG,_,hkd⟩:=hr.got;have HG:=hZ hG
   have hkn:n.kind≠2:=by
    rw[hkd]
    cases r with
    | nil=>simp[Tre.knd]
    | leaf k v=>simp[Tre.knd]
    | inner a b=>cases hri
   have k6:((n.kind:Int)==2)=false:=nB (by omega)
   have HF:Hid (σ.Inv (if zr=0 then R' else zr::R') []∧IsT σ zr d (xb1 .nil r)):=hZ (by
    refine⟨hI.congr (fun z=>?_) (fun _=>rfl),?_⟩
    ·rw[hR z]
     by_cases h0:zr=0
     ·rw[if_pos h0,if_neg (by simp),if_neg (by simp[h0])];omega
     ·rw[if_neg h0,List.count_cons,xd2]
      rw[if_neg (show ¬ (z=0∧(0:Int)≠0) by simp)];simp only[h0,ne_eq,not_false_eq_true,and_true];omega
    ·unfold xb1
     rw[if_pos ⟨rfl,hri⟩]
     exact hr.down hri)
   clear h hI hl hr hol hor hbl hbr hall hR hRl hsz hkn hkd hG;obtain⟨w0,rfl,HL⟩:=lS w;go_enter func228,ntmps228;go_upto_region 0 with fail;refine X1j ?_;go_upto_region 1 with fail;refine X1o ?_;refine X1m ?_;refine X5i ?_;intro K hK;refine Xag ?_;refine X4y ?_;clear hK K;intro w HL;refine Xah ?_;go_upto_region 2 with fail;refine X7v ?_;go_wp2_with fail;go_ret;exact⟨zr,D,vs,vf,σ,rfl,HH.out.below HL.below,Stp.of_below HL.below,HF.out.1,fun i hi hc=>⟨hi,rfl,rfl,hc⟩,HF.out.2,rfl,by omega⟩
  | true =>
   have hrk:=Tre.Ok.ne hor hri;have hzr:zr≠0:=fun e=>by subst e;have:=hr.zero;subst this;cases hri
   obtain⟨j,hj,ej,cj,dj,sj,kj,dpj,kyj⟩:=hr.nz hzr
   have hmj:((j:Int)+1)∈R:=List.count_pos_iff.1 (by
    have q1:=hR zr;have q2:(if zr=zr∧zr≠0 then 1 else 0:Nat)=1:=if_pos ⟨rfl,hzr⟩;rw[← ej]
    omega)
   have hhj:0<σ.slots[j].nd.held∧σ.slots[j].nd.held≤4611686018427387904:=by
    have q1:=hI.held j hj;have q2:=List.count_pos_iff.2 hmj;have q3:=hI.held_le j hj;omega
   have hsj:0≤σ.slots[j].nd.size∧σ.slots[j].nd.size≤1073741824:=by rw[sj];omega
   have HNX:Hid (¬ (σ.next:Int)=0):=hZ (by
    obtain⟨i0,hx,_⟩:=hI.taken ⟨Nd.z,0,[]⟩
    omega)
   have hjk:xb1 .nil r=.inner .nil r:=by
    unfold xb1;rw[if_neg (by simp[hri]),if_neg (by simp[hrk])]
   subst ej;have hfr:=xhu hj hr hbr hrk;have kk:σ.slots[j].nd.kind=2:=by rw[kj,hri];rfl
   have HF:=hZ (hI.oneSide (R':=R') hroom d j hd hj hr (l:=.nil) (r:=r) (fun z=>by rw[hR z,if_neg (by simp)];by_cases hq:z=(j:Int)+1<;>simp[hq,hzr]) ⟨xco d σ.slots[j].nd.key tagE σ.slots[j].nd.dig 0 ((j:Int)+1) σ.slots[j].nd.size,1,[]⟩ rfl rfl rfl rfl (by show tagI tagE σ.slots[j].nd.dig=_;rw[dj];rfl) (by show σ.slots[j].nd.size=_;rw[sj];simp[Tre.size]) rfl (.inr ⟨rfl,rfl,rfl,rfl⟩) hrk (fun k hk k' hk' x hx=>hall k (by simp[hk]) k' (by simp[hk']) x hx) _ rfl);rw[hjk];have HK:Hid (Got σ ((j:Int)+1) σ.slots[j].nd σ.slots[j].val true):=hZ (.inl ⟨rfl,j,rfl,hj,rfl,rfl,cj⟩);have k6:((σ.slots[j].nd.kind:Int)==2)=true:=by rw[kk];rfl
   have k1:((j:Int)+1==0)=false:=nB (by omega);have HQ:=hZ (And.intro cj (And.intro hfr (And.intro hhj (And.intro hsj kk))));have hN:=hZ hI.nice;clear h hI hl hr hol hor hbl hbr hall hR hRl hsz hrk hzr hmj hhj hsj dj sj kj dpj kyj hjk hfr kk cj;obtain⟨w0,rfl,HL⟩:=lS w;go_enter func228,ntmps228;go_upto_region 0 with fail;refine X1j ?_;go_upto_region 1 with fail;refine X1o ?_;refine X1m ?_;refine X5i ?_;intro K hK;refine Xai ?_;refine X4y ?_;clear hK K;intro w HL;refine Xaj ?_;go_upto_region 3 with fail;refine X12 ?_;refine X9w ?_;refine Xak ?_;refine X1t ?_;go_upto_region 5 with fail;refine X9b ?_;intro K hK;(with_reducible refine(xge (HH.out.below HL.below) hN.out d hd j _ rfl hj _ rfl HQ.out.1 HQ.out.2.1 HQ.out.2.2.1 HQ.out.2.2.2.1 HQ.out.2.2.2.2 hroom).mono ?_);rintro e w ⟨D2,vs2,vf2,rfl,hP2,hS2⟩;refine X7l ?_;clear hK K
   go_upto_region 6 with fail;refine X7v ?_;go_wp2_with fail;go_ret;exact⟨_,D2,vs2,vf2,_,rfl,hP2,(Stp.of_below HL.below).trans hS2,by rw[if_neg HNX.out];exact HF.out.1,HF.out.2.1,HF.out.2.2.1,HF.out.2.2.2.1,by rw[HF.out.2.2.2.2];exact Nat.le_refl _⟩
 ·by_cases hzr:zr=0
  ·subst hzr
   have:=hr.zero;subst this
   cases hli:l.isIn with
   | false =>
    have hjk:xb1 l .nil=l:=by
     unfold xb1;by_cases hq:l.keys = []
     ·have:=xcf hol hq
      subst this;rfl
     ·rw[if_neg (by simp[hq]),if_pos ⟨rfl,hli⟩]
    rw[hjk];obtain⟨n,val,ok,hG,_,hkd⟩:=hl.got;have HG:=hZ hG
    have hkn:n.kind≠2:=by
     rw[hkd]
     cases l with
     | nil=>simp[Tre.knd]
     | leaf k v=>simp[Tre.knd]
     | inner a b=>cases hli
    have k6:((n.kind:Int)==2)=false:=nB (by omega);have k1:(zl==0)=false:=by simpa using hzl
    have HF:Hid (σ.Inv (if zl=0 then R' else zl::R') []∧IsT σ zl d l):=hZ (by
     refine⟨hI.congr (fun z=>?_) (fun _=>rfl),hl.down hli⟩;rw[hR z,if_neg hzl,List.count_cons,xd2];rw[if_neg (show ¬ (z=0∧(0:Int)≠0) by simp)];simp only[hzl,ne_eq,not_false_eq_true,and_true]
     omega)
    clear h hI hl hr hol hor hbl hbr hall hR hRl hsz hkn hkd hG hjk;obtain⟨w0,rfl,HL⟩:=lS w;go_enter func228,ntmps228;go_upto_region 0 with fail;refine X1j ?_;go_upto_region 1 with fail;refine X12 ?_;refine X9w ?_;refine Xak ?_;refine X1t ?_;go_upto_region 3 with fail;refine X1o ?_;refine X1m ?_;refine X5i ?_;intro K hK;refine Xag ?_;refine X4y ?_;clear hK K;intro w HL;refine Xah ?_;go_upto_region 4 with fail;refine X7v ?_;go_wp2_with fail;go_ret;exact⟨zl,D,vs,vf,σ,rfl,HH.out.below HL.below,Stp.of_below HL.below,HF.out.1,fun i hi hc=>⟨hi,rfl,rfl,hc⟩,HF.out.2,rfl,by omega⟩
   | true =>
    have hlk:=Tre.Ok.ne hol hli;obtain⟨i,hi,ei,ci,di,si,ki,dpi,kyi⟩:=hl.nz hzl
    have hmi:((i:Int)+1)∈R:=List.count_pos_iff.1 (by
     have q1:=hR zl;have q2:(if zl=zl∧zl≠0 then 1 else 0:Nat)=1:=if_pos ⟨rfl,hzl⟩;rw[← ei]
     omega)
    have hhi:0<σ.slots[i].nd.held∧σ.slots[i].nd.held≤4611686018427387904:=by
     have q1:=hI.held i hi;have q2:=List.count_pos_iff.2 hmi;have q3:=hI.held_le i hi;omega
    have hsi:0≤σ.slots[i].nd.size∧σ.slots[i].nd.size≤1073741824:=by rw[si];omega
    have HNX:Hid (¬ (σ.next:Int)=0):=hZ (by
     obtain⟨i0,hx,_⟩:=hI.taken ⟨Nd.z,0,[]⟩
     omega)
    have hjk:xb1 l .nil=.inner l .nil:=by
     unfold xb1;rw[if_neg (by simp[hlk]),if_neg (by simp[hli])]
    subst ei;have hfl:=xht hi hl hbl hlk;have kk:σ.slots[i].nd.kind=2:=by rw[ki,hli];rfl
    have HF:=hZ (hI.oneSide (R':=R') hroom d i hd hi hl (l:=l) (r:=.nil) (fun z=>by rw[hR z];by_cases hq:z=(i:Int)+1<;>simp[hq,hzl]) ⟨xco d σ.slots[i].nd.key σ.slots[i].nd.dig tagE ((i:Int)+1) 0 σ.slots[i].nd.size,1,[]⟩ rfl rfl rfl rfl (by show tagI σ.slots[i].nd.dig tagE=_;rw[di];rfl) (by show σ.slots[i].nd.size=_;rw[si];simp[Tre.size]) rfl (.inl ⟨rfl,rfl,rfl,rfl⟩) hlk (fun k hk k' hk' x hx=>hall k (by simp[hk]) k' (by simp[hk']) x hx) _ rfl);rw[hjk];have HK:Hid (Got σ ((i:Int)+1) σ.slots[i].nd σ.slots[i].val true):=hZ (.inl ⟨rfl,i,rfl,hi,rfl,rfl,ci⟩);have k6:((σ.slots[i].nd.kind:Int)==2)=true:=by rw[kk];rfl
    have k1:((i:Int)+1==0)=false:=nB (by omega);have HQ:=hZ (And.intro ci (And.intro hfl (And.intro hhi (And.intro hsi kk))));have hN:=hZ hI.nice;clear h hI hl hr hol hor hbl hbr hall hR hRl hsz hlk hzl hmi hhi hsi di si ki dpi kyi hjk hfl kk ci;obtain⟨w0,rfl,HL⟩:=lS w;go_enter func228,ntmps228;go_upto_region 0 with fail;refine X1j ?_;go_upto_region 1 with fail;refine X12 ?_;refine X9w ?_;refine Xak ?_;refine X1t ?_;go_upto_region 3 with fail;refine X1o ?_;refine X1m ?_;refine X5i ?_;intro K hK;refine Xai ?_;refine X4y ?_;clear hK K;intro w HL;refine Xaj ?_;go_upto_region 5 with fail;refine X9b ?_;intro K hK;(with_reducible refine(xg2 (HH.out.below HL.below) hN.out d hd i _ rfl hi _ rfl HQ.out.1 HQ.out.2.1 HQ.out.2.2.1 HQ.out.2.2.2.1 HQ.out.2.2.2.2 hroom).mono ?_);rintro e w ⟨D2,vs2,vf2,rfl,hP2,hS2⟩;refine X7l ?_;clear hK K
    go_upto_region 6 with fail;refine X7v ?_;go_wp2_with fail;go_ret;exact⟨_,D2,vs2,vf2,_,rfl,hP2,(Stp.of_below HL.below).trans hS2,by rw[if_neg HNX.out];exact HF.out.1,HF.out.2.1,HF.out.2.2.1,HF.out.2.2.2.1,by rw[HF.out.2.2.2.2];exact Nat.le_refl _⟩
  ·skip
   obtain⟨i,hi,ei,ci,di,si,ki,dpi,kyi⟩:=hl.nz hzl
   have hmi:((i:Int)+1)∈R:=List.count_pos_iff.1 (by
    have q1:=hR zl;have q2:(if zl=zl∧zl≠0 then 1 else 0:Nat)=1:=if_pos ⟨rfl,hzl⟩;rw[← ei]
    omega)
   have hhi:0<σ.slots[i].nd.held∧σ.slots[i].nd.held≤4611686018427387904:=by
    have q1:=hI.held i hi;have q2:=List.count_pos_iff.2 hmi;have q3:=hI.held_le i hi;omega
   have hsi:0≤σ.slots[i].nd.size∧σ.slots[i].nd.size≤1073741824:=by rw[si];omega
   obtain⟨j,hj,ej,cj,dj,sj,kj,dpj,kyj⟩:=hr.nz hzr
   have hmj:((j:Int)+1)∈R:=List.count_pos_iff.1 (by
    have q1:=hR zr;have q2:(if zr=zr∧zr≠0 then 1 else 0:Nat)=1:=if_pos ⟨rfl,hzr⟩;rw[← ej]
    omega)
   have hhj:0<σ.slots[j].nd.held∧σ.slots[j].nd.held≤4611686018427387904:=by
    have q1:=hI.held j hj;have q2:=List.count_pos_iff.2 hmj;have q3:=hI.held_le j hj;omega
   have hsj:0≤σ.slots[j].nd.size∧σ.slots[j].nd.size≤1073741824:=by rw[sj];omega
   have HNX:Hid (¬ (σ.next:Int)=0):=hZ (by
    obtain⟨i0,hx,_⟩:=hI.taken ⟨Nd.z,0,[]⟩
    omega)
   have hlk:l.keys≠[]:=fun e=>hzl (by have:=xcf hol e;subst this;exact hl)
   have hrk:r.keys≠[]:=fun e=>hzr (by have:=xcf hor e;subst this;exact hr)
   have hjk:xb1 l r=.inner l r:=by
    unfold xb1;rw[if_neg (by simp[hlk]),if_neg (by simp[hrk])]
   subst ei;subst ej;have hfl:=xht hi hl hbl hlk;have hfr:=xhu hj hr hbr hrk
   have hne:i≠j:=fun e=>by
    subst e;have q1:=hfl.bit;have q2:=hfr.bit;omega
   have hok:(Tre.inner l r).Ok d:=⟨hd,hol,hor,hbl,hbr,hall,fun e=>absurd e hlk,fun e=>absurd e hrk⟩
   have hcm:d≤comm σ.slots[i].nd.key.l σ.slots[j].nd.key.l:=by
    obtain⟨k1,hk1⟩:=List.exists_mem_of_ne_nil _ hlk;obtain⟨k2,hk2⟩:=List.exists_mem_of_ne_nil _ hrk;refine Nat.le_of_not_lt fun hlt=>?_
    refine xc1 σ.slots[i].nd.key.l σ.slots[j].nd.key.l (by omega) ?_;rw[kyi k1 hk1 _ (by omega),kyj k2 hk2 _ (by omega)];exact hall k1 (by simp[hk1]) k2 (by simp[hk2]) _ hlt
   have HF:=hZ (hI.both (R':=R') hroom d i j hd hi hj hne hl hr hok (fun z=>by rw[hR z];simp only[hzl,hzr,ne_eq,not_false_eq_true,and_true]) _ rfl);rw[hjk];have k1:((i:Int)+1==0)=false:=nB (by omega);have k2:((j:Int)+1==0)=false:=nB (by omega);have HQ:=hZ (And.intro ci (And.intro hfl (And.intro hhi hsi)));have HQ2:=hZ (And.intro cj (And.intro hfr (And.intro hhj (And.intro hsj (And.intro hne hcm)))));have hN:=hZ hI.nice;clear h hI hl hr hol hor hbl hbr hall hR hRl hsz hlk hrk hzl hzr hmi hhi hsi di si ki dpi kyi hmj hhj hsj dj sj kj dpj kyj hjk hfl hfr ci cj hne hok hcm;obtain⟨w0,rfl,HL⟩:=lS w;go_enter func228,ntmps228;go_upto_region 0 with fail;refine X1j ?_;go_upto_region 1 with fail;refine X12 ?_;refine X9w ?_;refine Xak ?_;refine X1t ?_;go_upto_region 3 with fail;refine X12 ?_;refine Xal ?_;refine Xak ?_;refine X1t ?_
   go_upto_region 5 with fail;refine X9b ?_;intro K hK;(with_reducible refine(xfa (HH.out.below HL.below) hN.out d hd i _ rfl hi _ rfl HQ.out.1 HQ.out.2.1 HQ.out.2.2.1 HQ.out.2.2.2 j _ rfl hj _ rfl HQ2.out.1 HQ2.out.2.1 HQ2.out.2.2.1 HQ2.out.2.2.2.1 HQ2.out.2.2.2.2.1 HQ2.out.2.2.2.2.2 hroom).mono ?_);rintro e w ⟨D2,vs2,vf2,rfl,hP2,hS2⟩;refine X7l ?_;clear hK K;go_upto_region 6 with fail;refine X7v ?_;go_wp2_with fail;go_ret;exact⟨_,D2,vs2,vf2,_,rfl,hP2,(Stp.of_below HL.below).trans hS2,by rw[if_neg HNX.out];exact HF.out.1,HF.out.2.1,HF.out.2.2.1,HF.out.2.2.2.1,by rw[HF.out.2.2.2.2];exact Nat.le_refl _⟩
end
structure Wrt where
 key:D32
 gone:Bool
 val:Sv
def Wrt.cells(x:Wrt):List Value:=x.key.c++([Value.bool x.gone]++([x.val.v]++[]))
theorem Wrt.len(x:Wrt):x.cells.length=34:=by
 simp only[Wrt.cells,qp,D32.cl,qr,qs]
theorem Wrt.one(x:Wrt):∀ u∈x.cells,u.oneCell'=true:=by
 intro u hu;simp only[Wrt.cells,List.mem_append,List.mem_cons,List.not_mem_nil,or_false] at hu;rcases hu with hu | rfl | rfl
 ·exact D32.c1 _ u hu
 ·rfl
 ·rfl
def Wrt.z:Wrt:=⟨D32.z,false,Sv.nil⟩
theorem Wrt.g_key(x:Wrt):(x.cells.drop 0).take 32=x.key.c:=by unfold Wrt.cells;exact Zd
theorem Wrt.s_key(x:Wrt)(y:D32):splice x.cells 0 y.c=({x with key:=y}:Wrt).cells:=by unfold Wrt.cells;exact Zp
theorem Wrt.g_gone(x:Wrt):x.cells[32]? = some (Value.bool x.gone):=by unfold Wrt.cells;exact Zg
theorem Wrt.s_gone(x:Wrt)(y:Bool):x.cells.set 32 (Value.bool y)=({x with gone:=y}:Wrt).cells:=by unfold Wrt.cells;exact Zs
theorem Wrt.g_val(x:Wrt):x.cells[33]? = some (x.val.v):=by unfold Wrt.cells;exact Zg
theorem Wrt.s_val(x:Wrt)(y:Sv):x.cells.set 33 (y.v)=({x with val:=y}:Wrt).cells:=by unfold Wrt.cells;exact Zs
structure WriS (w:World)(A:Option Addr)(n c:Nat)(ws:List Wrt):Prop where
 rd:Rd w A (ws.flatMap Wrt.cells)
 len:ws.length=n
 cap:n≤c
theorem WriS.below{w w':World}{A:Option Addr}{n c:Nat}{ws:List Wrt}(h:WriS w A n c ws)(hb:Bw w w'):WriS w' A n c ws:=⟨h.rd.below hb,h.len,h.cap⟩
theorem WriS.at_{w:World}{A:Option Addr}{n c:Nat}{ws:List Wrt}(h:WriS w A n c ws)(i:Nat)(hi:i<ws.length):∃ ad,A=some ad∧Rd w (some (ad.add (i*34))) ws[i].cells:=by
 obtain⟨ad,e,_⟩:=h.rd (by rw[xaw Wrt.len];omega);refine⟨ad,e,?_⟩;have h2:=h.rd.cut (i*34) 34;rw[e] at h2;have h3:=xcb (f:=Wrt.cells) Wrt.len ws [] i hi;rw[List.append_nil] at h3;rw[h3] at h2;exact h2
def xbv(d:Nat)(ws:List Wrt):Nat:=(ws.takeWhile fun x=>!tb x.key.l d).length
theorem xq1{d i:Nat}{ws:List Wrt}(hi:i<ws.length)(h:i≤xbv d ws)(hb:tb ws[i].key.l d=false):i+1≤xbv d ws:=by
 unfold xbv at h ⊢
 induction ws generalizing i with
 | nil=>exact absurd hi (Nat.not_lt_zero _)
 | cons x ws ih =>
  cases i with
  | zero =>
   rw[List.getElem_cons_zero] at hb;rw[List.takeWhile_cons,hb];simp
  | succ i =>
   rw[List.takeWhile_cons] at h ⊢
   cases hx:tb x.key.l d with
   | true=>rw[hx] at h;simp at h
   | false =>
    rw[hx] at h;simp only[Bool.not_false,if_true,qr] at h ⊢;have:=ih (by simpa using hi) (by omega) (by simpa using hb);omega
theorem xq2{d i:Nat}{ws:List Wrt}(hi:i<ws.length)(h:i≤xbv d ws)(hb:tb ws[i].key.l d=true):xbv d ws=i:=by
 unfold xbv at h ⊢
 induction ws generalizing i with
 | nil=>exact absurd hi (Nat.not_lt_zero _)
 | cons x ws ih =>
  cases i with
  | zero =>
   rw[List.getElem_cons_zero] at hb;rw[List.takeWhile_cons,hb];simp
  | succ i =>
   rw[List.takeWhile_cons] at h ⊢
   cases hx:tb x.key.l d with
   | true=>rw[hx] at h;simp at h
   | false =>
    rw[hx] at h;simp only[Bool.not_false,if_true,qr] at h ⊢;have:=ih (by simpa using hi) (by omega) (by simpa using hb);omega
theorem xkx(d:Nat)(ws:List Wrt):xbv d ws≤ws.length:=(List.takeWhile_sublist _).length_le
section
variable {w w':World}
theorem xmd(A:Option Addr)(n c:Nat)(ws:List Wrt)(d:Nat)(hd:d<256)(h:WriS w A n c ws)(hn:n≤1000000):Calls prog 227 #[.slice A n c,iV d] w (oB w (.int .i64 ((xbv d ws:Nat):Int))):=by
 have HW:=hZ h;have hlen:=h.len;clear h;obtain⟨w0,rfl,HL⟩:=lS w;go_enter func227,ntmps227;go_upto_region 0 with fail;refine X1j ?_;go_upto_region 1 with fail;refine X1j ?_;go_wp2_with fail
 go_loopw [5] (fun z wr=>∃ i:Nat,i≤xbv d ws∧z=.int .i64 (i:Int)∧Loc w0 (Old w0) [] wr) (fun z _=>(ws.length - intOf z).toNat)
 case atStart=>exact⟨0,Nat.zero_le _,rfl,HL⟩
 case round=>as_aux_lemma =>
  clear HL;obtain⟨i,hi,rfl,HL⟩:=hrel;obtain⟨w,rfl⟩:=eW wr;have hz:=xkx d ws;by_cases hlt:i<n
  ·have k3:decide ((i:Int)<(n:Int))=true:=by simp;omega
   refine Xam ?_;intro HI;have hil:i<ws.length:=by omega
   obtain⟨ad,hA,_⟩:=HW.out.at_ i hil;refine Xan ?_;intro HSV
   have hrd:∀ u,Bw w0 u→Rd u (some (ad.add (i*34))) ws[i].cells:=fun u hu=>by
    obtain⟨ad2,hA2,h2⟩:=(HW.out.below hu).at_ i hil;rw[hA] at hA2;cases hA2;exact h2
   have HRD:=hZ hrd;obtain⟨b,hb⟩:∃ b,tb ws[i].key.l d=b:=⟨_,rfl⟩;have HB:=hZ hb;have CB:∀ u:World,Hid (Calls prog 150 #[ws[i].key.a,iV d] u (oB u (iV (b.toNat:Int)))):=fun u=>hZ (by rw[← hb];exact xih u ws[i].key d hd)
   have HK:∀ u,Bw w0 u→Hid (Rd u (some ((ad.add (i*34)).add 0)) ws[i].key.c):=fun u hu=>hZ (by
    have h1:=(HRD.out u hu).cut 0 32;rw[Wrt.g_key] at h1
    exact h1)
   clear hA hb hrd
   cases b with
   | false =>
    go_upto_region 2 with fail;refine X19 ?_;refine Xao ?_;refine X6 ?_;refine Xap ?_;refine Xaq ?_;refine X6 ?_;refine xac rfl _ (xe0 xhj _ rfl _ rfl) ?_;refine X6 ?_;refine Xar ?_;refine X5j ?_;intro K hK;refine X5c ?_;(with_reducible refine((CB _).out).mono ?_);refine X4y ?_;clear hK K;intro w HL;refine X29 ?_;go_upto_region 3 with fail;refine Xat ?_;go_wp2_with fail;go_roundw
    case rel=>exact⟨i+1,xq1 hil hi HB.out,rfl,HL⟩
    case measure=>simp[intOf]<;>omega
   | true =>
    have HZ:Hid (xbv d ws=i):=hZ (xq2 hil hi HB.out);go_upto_region 2 with fail;refine X19 ?_;refine Xao ?_;refine X6 ?_;refine Xap ?_;refine Xaq ?_;refine X6 ?_;refine xac rfl _ (xe0 xhj _ rfl _ rfl) ?_;refine X6 ?_;refine Xar ?_;refine X5j ?_;intro K hK;refine X5c ?_;(with_reducible refine((CB _).out).mono ?_);refine X4y ?_;clear hK K;intro w HL;refine X29 ?_;go_upto_region 4 with fail;refine X7v ?_;go_wp2_with fail;go_ret;exact⟨by rw[HZ.out];rfl,HL.below⟩
  ·have k3:decide ((i:Int)<(n:Int))=false:=by simp;omega
   have HZ:Hid (xbv d ws=i):=hZ (by omega);go_upto_region 2 with fail;refine X19 ?_;refine Xao ?_;refine X6 ?_;refine Xap ?_;refine Xak ?_;refine no_implicit_lambda% (X2d ?_);refine X27 ?_;go_upto_region 4 with fail;refine X7v ?_;go_wp2_with fail;go_ret;exact⟨by rw[HZ.out];rfl,HL.below⟩
end
section
variable {P:Program}{ops:Array Oper}{Q:Exit→Act→World→Prop}{S S':World→Prop}{F pl:List Nat}{g:Nat}
theorem xbk(ord:List Nat)(g':Nat){l:List Oper}{dn:List Nat}{a:Act}{w:World}(hp:(xec l.toArray F pl dn ord&&ord.length+g'==g&&ord.all (· < l.length))=true)
  (h:wpT P l.toArray Q S F pl g' dn (pick l ord) a w):wpT P l.toArray Q S F pl g dn [] a w:=by
 intro _ _ hQ;simp only[Bool.and_eq_true,beq_iff_eq] at hp;obtain⟨⟨h1,h2⟩,h3⟩:=hp;have h4:=h (xjj h3) (by rw[xoi];exact h1) hQ;rw[show(pick l ord).length=ord.length by simp[pick]] at h4;simpa[h2] using h4
def wpB(P:Program)(ops:Array Oper)(Q:Exit→Act→World→Prop)(S:World→Prop)(F pl:List Nat)(g:Nat)(dn:List Nat)(a:Act)(w:World):List (Nat×Oper)→Prop
 | []=>True
 | (i,o)::r=>(Region.wanted o (yielded ops a.tmps)=true∧∀ K:Act→World→Prop,(∀ a' w',(F.contains i=false→S w')→wpT P ops Q S F pl g (i::dn) [] a' w'→K a' w')→o.wp P a w K Q)∧wpB P ops Q S F pl g dn a w r
theorem wpB_at{dn:List Nat}{a:Act}{w:World}:∀ {r:List (Nat×Oper)},wpB P ops Q S F pl g dn a w r→∀ x∈r,Region.wanted x.2 (yielded ops a.tmps)=true ∧
  ∀ K:Act→World→Prop,(∀ a' w',(F.contains x.1=false→S w')→wpT P ops Q S F pl g (x.1::dn) [] a' w'→K a' w')→x.2.wp P a w K Q
 | [],_,x,hx=>by simp at hx
 | (i,o)::r,h,x,hx=>by
  rcases List.mem_cons.1 hx with rfl | hx
  ·exact h.1
  ·exact wpB_at h.2 x hx
theorem xcz(ids:List Nat){l:List Oper}{dn:List Nat}{a:Act}{w:World}(hp:(Region.ready .any l.toArray (listed l.toArray.size dn)==ids&&!ids.isEmpty&&ids.all (· < l.length))=true)
  (h:wpB P l.toArray Q S F pl g dn a w (pick l ids)):wpT P l.toArray Q S F pl (g+1) dn [] a w:=by
 intro _ _ hQ;simp only[Bool.and_eq_true,beq_iff_eq] at hp;obtain⟨⟨h1,h2⟩,h3⟩:=hp;rw[show([]:List (Nat×Oper)).length+(g+1)=g+1 by simp];refine⟨fun h0=>(by rw[h1] at h0;subst h0;simp at h2),fun j hj=>?_⟩;rw[h1] at hj;have hx:(j,l.getD j default)∈pick l ids:=List.mem_map.2 ⟨j,hj,rfl⟩;obtain⟨hw,hh⟩:=wpB_at h _ hx;have hi:=xjj h3 _ hx;unfold wpOp;simp only at hw hi hh;simp only[hi,hw,if_true];exact .inl (hh _ fun a' w' g1 g2=>⟨g1,(by have h5:=g2 (fun x hx=>by simp at hx) rfl hQ;simp only[qs,Nat.zero_add] at h5;exact h5)⟩)
end
def Wrt.ky(x:Wrt):Nat:=nOf x.key.l
def Srt{α:Type}(f:α→Nat)(l:List α):Prop:=l.Pairwise fun p q=>f p≤f q
section
variable {α:Type}{f:α→Nat}
theorem Srt.sublist{l m:List α}(h:Srt f l)(hs:m.Sublist l):Srt f m:=List.Pairwise.sublist hs h
theorem xsu(f:α→Nat)(l:List α):Srt f (l.take 1):=by
 cases l with
 | nil=>exact List.Pairwise.nil
 | cons x l=>exact List.pairwise_singleton _ _
theorem xpf{A:List α}{y:α}{c:Nat}(h:Srt f (A++[y]))(hc:f y≤c):∀ z∈A++[y],f z≤c:=by
 intro z hz;rcases List.mem_append.1 hz with hz | hz
 ·exact Nat.le_trans ((List.pairwise_append.1 h).2.2 z hz y (by simp)) hc
 ·rw[List.mem_singleton.1 hz];exact hc
theorem xhv(A B C:List α)(x:α)(f:α→Nat)(i:Nat)(hl:A.length+B.length=i)(h:Srt f (A++B))(hB:∀ y∈B,f x<f y)(hA:∀ y∈A,f y≤f x):Srt f ((A++x::(B++C)).take (i+1)):=by
 have e:A++x::(B++C)=(A++x::B)++C:=by simp
 rw[e,List.take_left' (by simp;omega)];obtain⟨h1,h2,h3⟩:=List.pairwise_append.1 h;refine List.pairwise_append.2 ⟨h1,List.pairwise_cons.2 ⟨fun y hy=>Nat.le_of_lt (hB y hy),h2⟩,fun a ha b hb=>?_⟩;rcases List.mem_cons.1 hb with rfl | hb
 ·exact hA a ha
 ·exact h3 a ha b hb
theorem xhw(A T:List α)(x y:α):(A++x::y::T).Perm (A++y::x::T):=(List.Perm.swap _ _ _).append_left A
theorem xsv{A T:List α}{y x:α}{m:Nat}(h:A.length=m):∃ (h1:m<(A++y::x::T).length) (h2:m+1<(A++y::x::T).length),(A++y::x::T)[m]=y∧(A++y::x::T)[m+1]=x∧((A++y::x::T).set (m+1) y).set m x=A++x::y::T:=by
 subst h;refine⟨by simp,by simp,by simp,by simp,?_⟩;simp[List.set_append]
end
theorem Loc.of1{w0 w:World}{g t:Nat}{cs:List Value}(hf:Fr (· = g) w0 w)(hb:Blk w g t cs):Loc w0 (fun k=>Old w0 k∧¬ k=g) [(g,t,cs)] w:=by
 refine⟨⟨hf.os,hf.tape,hf.output,hf.size,fun k hk hn=>hf.block k hk (fun e=>hn (fun hd=>hd.2 e))⟩,fun x hx=>?_,List.pairwise_singleton _ _,fun k hk=>hk.1⟩;rw[List.mem_singleton.1 hx];exact⟨fun hd=>hd.2 rfl,hb⟩
section
variable {w w':World}
theorem cmp_w(x y:Wrt)(w:World):Calls prog 230 #[.agg x.cells.toArray,.agg y.cells.toArray] w (oB w (iV (cmpZ x.ky y.ky))):=by
 obtain⟨w0,rfl,HL⟩:=lS w;have CC:=fun u=>hZ (xgq u x.key y.key)
 go_enter func230,ntmps230;go_upto_region 0 with fail;refine Xt ?_;refine xcs rfl _ rfl HL _ rfl ?_;clear HL;intro g2 w HL;refine X6 ?_;refine X38 ?_;clear HL;intro g3 w HL;refine X1a ?_;go_upto_region 1 with fail;refine Xt ?_;refine Xau ?_;refine xaa rfl _ (xav ag24 HL _ rfl _ _ rfl _ _ _ (.tail _ (.head _)) (Wrt.g_key _) (D32.cl _)) ?_;refine X6 ?_;refine Xav ?_;refine X50 ?_;intro K hK;refine Xax ?_;refine X7u ?_;clear hK K;intro w HL;go_wp2_with fail;go_ret;exact⟨rfl,HL.below⟩
theorem ins_w(g n c:Nat)(ws:List Wrt)(sp:List Value)(w:World)(hb:Blk w g 222 (ws.flatMap Wrt.cells++sp))(hn:ws.length=n)(hc:n≤c)(h63:n≤1000000) :
  Calls prog 252 #[.slice (aS g) n c,iV 0,iV n,.func (.func 230) #[] #[]] w fun e w'=>e=.returned (.tuple #[])∧∃ ws',ws'.Perm ws∧Srt Wrt.ky ws'∧Blk w' g 222 (ws'.flatMap Wrt.cells++sp)∧Fr (· = g) w w':=by
 have HN:=hZ hn;clear hn;have hf:Fr (· = g) w w:=Fr.refl _ _;obtain⟨w0,rfl⟩:=eW w;refine Xay ?_;intro HL;refine Xaz ?_;intro H01;go_enter func252,ntmps252;go_upto_region 0 with fail;refine X12 ?_;refine Xb0 ?_;refine X1a ?_;go_wp2_with fail;clear HL
 go_loopw [8] (fun z wr=>∃ (i:Nat)(ys:List Wrt),1≤i∧(i≤n∨i=1)∧z=.int .i64 (i:Int)∧ys.Perm ws∧Srt Wrt.ky (ys.take i)∧Blk wr g 222 (ys.flatMap Wrt.cells++sp)∧Fr (· = g) w0 wr) (fun z _=>(n+1 - intOf z).toNat)
 case atStart=>exact⟨1,ws,Nat.le_refl _,.inr rfl,rfl,.refl _,xsu _ _,hb,hf⟩
 case round=>as_aux_lemma =>
  clear hb hf;obtain⟨i,ys,hi1,hi2,rfl,hp,hs,hb,hf⟩:=hrel;obtain⟨w,rfl⟩:=eW wr;have hyl:ys.length=n:=by rw[hp.length_eq,HN.out]
  have HL:Loc w0 (fun k=>Old w0 k∧¬ k=g) [(g,222,ys.flatMap Wrt.cells++sp)] w:=Loc.of1 hf hb;clear hb hf;by_cases hlt:i<n
  ·have k14:decide ((i:Int)<(n:Int))=true:=by simp;omega
   refine Xb1 ?_;intro HI1;have hil:i<ys.length:=by omega
   have ey:ys=ys.take i++ys[i]::ys.drop (i+1):=by rw[List.getElem_cons_drop,List.take_append_drop]
   have hAl:(ys.take i).length=i:=by rw[List.length_take];omega
   have hCl:(ys.drop (i+1)).length+i+1=n:=by rw[List.length_drop];omega
   generalize ys.take i=A0 at *;generalize ys[i]=x at *;generalize ys.drop (i+1)=CC at *;subst ey;go_upto_region 1 with fail;refine Xb2 ?_;go_upto_region 3 with fail;refine X7v ?_;have hb:=HL.blk (.head _);have hf:=HL.frS;clear HL;go_wp2_with fail
   go_loopw [9] (fun z wr=>∃ (j:Nat)(A B:List Wrt),z=.int .i64 (j:Int)∧A.length=j∧A.length+B.length=i∧(A++x::(B++CC)).Perm ws∧Srt Wrt.ky (A++B)∧(∀ y∈B,Wrt.ky x<Wrt.ky y)∧Blk wr g 222 ((A++x::(B++CC)).flatMap Wrt.cells++sp)∧Fr (· = g) w0 wr) (fun z _=>(intOf z).toNat)
   case atStart=>exact⟨i,A0,[],rfl,hAl,by simpa using hAl,by simpa using hp,by simpa using hs,(fun y hy=>by cases hy),by simpa using hb,hf⟩
   case round=>as_aux_lemma =>
    clear hb hf hp hs hAl hyl hil A0 hi2;obtain⟨j,A,B,rfl,hAj,hAB,hp,hs,hB,hb,hf⟩:=hrel;obtain⟨w,rfl⟩:=eW wr;have HL:Loc w0 (fun k=>Old w0 k∧¬ k=g) [(g,222,(A++x::(B++CC)).flatMap Wrt.cells++sp)] w:=Loc.of1 hf hb;rcases List.eq_nil_or_concat A with rfl | ⟨A1,y,hA⟩
    ·have e0:j=0:=hAj.symm
     subst e0;have k2:decide ((0:Int)<((0:Nat):Int))=false:=by simp
     have HTK:Hid (Srt Wrt.ky (([]++x::(B++CC)).take (i+1))):=hZ (xhv [] B CC x Wrt.ky i (by simpa using hAB) hs hB (fun y hy=>by cases hy));clear hb hf;go_upto_region 4 with fail;refine Xb3 ?_;refine X3v ?_;intro HL;refine Xb5 ?_;refine X8l ?_;refine X8k ?_;refine X8o ?_;refine Xb ?_;go_upto_region 2 with fail;refine Xb8 ?_;go_wp2_with fail;go_roundw
     case rel=>exact⟨i+1,[]++x::(B++CC),by omega,by omega,rfl,hp,HTK.out,HL.blk (.head _),HL.frS⟩
     case measure=>simp[intOf]<;>omega
    ·rw[List.concat_eq_append] at hA
     subst hA;obtain⟨m,hm⟩:∃ m,A1.length=m:=⟨_,rfl⟩;have hj1:j=m+1:=by rw[← hAj];simp[hm]
     subst hj1;have k2:decide ((0:Int)<((m+1:Nat):Int))=true:=by simp
     have HJ1:Hid (((m+1:Nat):Int) - 1=(m:Int)):=hZ (by omega);have eY:A1++[y]++x::(B++CC)=A1++y::x::(B++CC):=by simp
     obtain⟨h1,h2,hg1,hg2,hsw⟩:=xsv (y:=y) (x:=x) (T:=B++CC) hm
     have hjn:m+1<n:=by
      simp only[qp,List.length_singleton,hm] at hAB;omega
     have Hx0:=xcb Wrt.len (A1++y::x::(B++CC)) sp (m+1) h2;have Hy0:=xcb Wrt.len (A1++y::x::(B++CC)) sp m h1;rw[hg2] at Hx0;rw[hg1] at Hy0;have HS1:=xci Wrt.len (A1++y::x::(B++CC)) sp (m+1) y h2;have HS2:=xci Wrt.len ((A1++y::x::(B++CC)).set (m+1) y) sp m x (by rw[List.length_set];exact h1);rw[hsw] at HS2;have hjl:(m+1)*34+34≤((A1++y::x::(B++CC)).flatMap Wrt.cells++sp).length:=by rw[List.length_append,xaw Wrt.len];have:=h2;omega
     have hml:m*34+34≤(((A1++y::x::(B++CC)).set (m+1) y).flatMap Wrt.cells++sp).length:=by rw[List.length_append,xaw Wrt.len,List.length_set];have:=h1;omega
     rw[eY] at HL hb hp;have Hx:=Hx0;have Hy:=Hy0;obtain⟨cz,hcz⟩:∃ cz,cmpZ (Wrt.ky x) (Wrt.ky y)=cz:=⟨_,rfl⟩;have CB:∀ u:World,Hid (Calls prog 230 #[.agg x.cells.toArray,.agg y.cells.toArray] u (oB u (iV cz))):=fun u=>hZ (by rw[← hcz];exact cmp_w x y u)
     clear h1 h2 hg1 hg2 eY;by_cases hxy:Wrt.ky x<Wrt.ky y
     ·have k15:decide (cz<0)=true:=by
       rw[← hcz];unfold cmpZ;rw[if_pos hxy];rfl
      clear hb hf;go_upto_region 4 with fail;refine Xb3 ?_;refine X3v ?_;intro HL;refine Xb9 ?_;refine X72 ?_;refine Xba ?_;refine X6 ?_;refine Xbb ?_;refine Xbd ?_;refine X6 ?_;refine Xbe ?_;refine X6 ?_;refine Xbf ?_;refine Xh ?_;intro K hK;refine xhr cf230 rfl rfl _ rfl ?_;refine Xbg ?_;rintro e w ⟨rfl,hb2⟩;replace HL:=HL.next hb2;clear hb2;refine X5v ?_;clear hK K;refine Xbh ?_;have hb:=HL.blk (.head _);have hf:=HL.frS;clear HL Hx0 Hy0;refine Xbi ?_;intro HL;go_upto_region 6 with fail;replace hb:=hb.drew;replace hf:=hf.drew;refine Xbj ?_;intro HL;refine X3u ?_;refine Xbc ?_;refine Xbd ?_;refine X6 ?_;refine Xbe ?_;refine X71 ?_;refine Xba ?_;refine Xbk ?_;refine X4 ?_;refine⟨⟨rfl,?_⟩,⟨rfl,?_⟩,trivial⟩
      ·intro K hK
       refine xbj (xbi ag222 _ rfl g (m*34) 222 _ _ rfl hb Hy (Wrt.len _)) ?_;refine X3x ?_;clear hK K;refine xbk [13,14,15,16,17] 0 (by kernel_rfl) ?_;refine Xbl ?_;intro K hK;refine Xbm ?_;clear hK K;refine Xba ?_;refine Xh ?_;intro K hK;refine Xbn ?_;intro w2 hb2 hg2 _;rw[HS1] at hb2;have hf2:=hf.grown hg2 (fun k hk=>.inl (by cases hk;rfl));refine Xbo ?_;clear hK K;intro HL2;clear HL hb hf;have HL:=HL2;have hb:=hb2;have hf:=hf2;clear HL2 hb2 hf2;refine Xg ?_;intro K hK;refine xbj (xap xcq _ _ rfl g n c m .i64 rfl rfl (by omega)) ?_;refine X3y ?_;clear hK K;intro K hK;refine xbe ag222.i _ _ rfl g (m*34) 222 _ _ rfl rfl hb (Wrt.len _) hml (Wrt.one _) ?_;intro w2 hb2 hg2 _;rw[HS2] at hb2;have hf2:=hf.grown hg2 (fun k hk=>.inl (by cases hk;rfl));refine Xbo ?_;clear hK K;intro HL2;clear HL hb hf
       have HL:=HL2;have hb:=hb2;have hf:=hf2;clear HL2 hb2 hf2;refine Xa ?_;go_upto_region 5 with fail;refine X12 ?_;refine Xbp ?_;refine X1a ?_;go_wp2_with fail;go_roundw
       case rel=>exact⟨m,A1,y::B,rfl,hm,by simp at hAB ⊢;omega,(xhw A1 (B++CC) x y).trans hp,by simpa using hs,(fun u hu=>by
        rcases List.mem_cons.1 hu with rfl | hu
        ·exact hxy
        ·exact hB u hu),hb,hf⟩
       case measure=>simp[intOf]<;>omega
      ·intro K hK
       refine Xbm ?_;clear hK K;refine xbk [9,14,15,16,17] 0 (by kernel_rfl) ?_;refine Xbl ?_;intro K hK;refine xbj (xbi ag222 _ rfl g (m*34) 222 _ _ rfl hb Hy (Wrt.len _)) ?_;refine X3x ?_;clear hK K;refine Xba ?_;refine Xh ?_;intro K hK;refine Xbn ?_;intro w2 hb2 hg2 _;rw[HS1] at hb2;have hf2:=hf.grown hg2 (fun k hk=>.inl (by cases hk;rfl));refine Xbo ?_;clear hK K;intro HL2;clear HL hb hf;have HL:=HL2;have hb:=hb2;have hf:=hf2;clear HL2 hb2 hf2;refine Xg ?_;intro K hK;refine xbj (xap xcq _ _ rfl g n c m .i64 rfl rfl (by omega)) ?_;refine X3y ?_;clear hK K;intro K hK;refine xbe ag222.i _ _ rfl g (m*34) 222 _ _ rfl rfl hb (Wrt.len _) hml (Wrt.one _) ?_;intro w2 hb2 hg2 _;rw[HS2] at hb2;have hf2:=hf.grown hg2 (fun k hk=>.inl (by cases hk;rfl));refine Xbo ?_;clear hK K;intro HL2;clear HL hb hf
       have HL:=HL2;have hb:=hb2;have hf:=hf2;clear HL2 hb2 hf2;refine Xa ?_;go_upto_region 5 with fail;refine X12 ?_;refine Xbp ?_;refine X1a ?_;go_wp2_with fail;go_roundw
       case rel=>exact⟨m,A1,y::B,rfl,hm,by simp at hAB ⊢;omega,(xhw A1 (B++CC) x y).trans hp,by simpa using hs,(fun u hu=>by
        rcases List.mem_cons.1 hu with rfl | hu
        ·exact hxy
        ·exact hB u hu),hb,hf⟩
       case measure=>simp[intOf]<;>omega
     ·have k15:decide (cz<0)=false:=by
       rw[← hcz];unfold cmpZ;rw[if_neg hxy];split<;>rfl
      have HTK:Hid (Srt Wrt.ky ((A1++y::x::(B++CC)).take (i+1))):=hZ (by
       have h9:=xhv (A1++[y]) B CC x Wrt.ky i (by simpa using hAB) hs hB (xpf (hs.sublist (List.sublist_append_left _ _)) (Nat.le_of_not_lt hxy))
       simpa using h9)
      clear hb hf;go_upto_region 4 with fail;refine Xb3 ?_;refine X3v ?_;intro HL;refine Xb9 ?_;refine X72 ?_;refine Xba ?_;refine X6 ?_;refine Xbb ?_;refine Xbd ?_;refine X6 ?_;refine Xbe ?_;refine X6 ?_;refine Xbf ?_;refine Xh ?_;intro K hK;refine xhr cf230 rfl rfl _ rfl ?_;refine Xbg ?_;rintro e w ⟨rfl,hb2⟩;replace HL:=HL.next hb2;clear hb2;refine X5v ?_;clear hK K;refine Xbq ?_;go_upto_region 2 with fail;refine Xb8 ?_;go_wp2_with fail;go_roundw
      case rel=>exact⟨i+1,A1++y::x::(B++CC),by omega,by omega,rfl,hp,HTK.out,HL.blk (.head _),HL.frS⟩
      case measure=>simp[intOf]<;>omega
  ·have k14:decide ((i:Int)<(n:Int))=false:=by simp;omega
   go_upto_region 1 with fail;refine Xb2 ?_;go_wp2_with fail
   go_end0
   exact⟨rfl,ys,hp,by rwa [List.take_of_length_le (by omega)] at hs,HL.blk (.head _),HL.frS⟩
theorem pdq_w(g n c:Nat)(ws:List Wrt)(sp:List Value)(w:World)(hb:Blk w g 222 (ws.flatMap Wrt.cells++sp))(hn:ws.length=n)(hc:n≤c)(h12:n≤12)(r:Int) :
  Calls prog 248 #[.slice (aS g) n c,iV 0,iV n,iV r,.func (.func 230) #[] #[]] w fun e w'=>e=.returned (.tuple #[])∧∃ ws',ws'.Perm ws∧Srt Wrt.ky ws'∧Blk w' g 222 (ws'.flatMap Wrt.cells++sp)∧Fr (· = g) w w':=by
 have C:=hZ (ins_w g n c ws sp w hb hn hc (by omega));clear hb hn;have H0:Hid ((n:Int) - 0=(n:Int)):=hZ (by omega);have k1:decide ((n:Int)≤12)=true:=by simp;omega
 obtain⟨w0,rfl,HL⟩:=lS w;go_enter func248,ntmps248;go_upto_region 0 with fail;refine X1j ?_;go_upto_region 1 with fail;refine X1j ?_;go_wp2_with fail;refine X9q ?_;rw[rounds_succ];go_upto_region 2 with fail;refine X19 ?_;refine Xbr ?_;refine X1a ?_;go_upto_region 3 with fail;refine X12 ?_;refine Xbs ?_;refine X1z ?_;go_upto_region 4 with fail;refine X9a ?_;intro K hK;refine xad cf252 rfl _ rfl ?_;refine Xbt ?_;rintro e w ⟨rfl,ws',h1,h2,h3,h4⟩;clear HL;refine X20 ?_;clear hK K;go_wp2_with fail;refine Xbu ?_;exact⟨rfl,ws',h1,h2,h3,h4⟩
theorem sort_w(g n c:Nat)(ws:List Wrt)(sp:List Value)(w:World)(hb:Blk w g 222 (ws.flatMap Wrt.cells++sp))(hn:ws.length=n)(hc:n≤c)(h12:n≤12) :
  Calls prog 229 #[.slice (aS g) n c,.func (.func 230) #[] #[]] w fun e w'=>e=.returned (.tuple #[])∧∃ ws',ws'.Perm ws∧Srt Wrt.ky ws'∧Blk w' g 222 (ws'.flatMap Wrt.cells++sp)∧Fr (· = g) w w':=by
 have C:=fun r=>hZ (pdq_w g n c ws sp w hb hn hc h12 r)
 clear hb hn;obtain⟨w0,rfl,HL⟩:=lS w;have HB:=hZ (xhq (n:Int) w0 (by omega) (by omega));have hcv:IntKind.u64.wrap (n:Int)=(n:Int):=by rw[IntKind.wrap_u64];omega
 go_enter func229,ntmps229;go_upto_region 0 with fail;refine Xbv ?_;refine X1a ?_;go_upto_region 1 with fail;refine X6s ?_;refine Xbw ?_;refine X50 ?_;intro K hK;refine Xbx ?_;rintro e w ⟨r,rfl,rfl⟩;refine X1y ?_;clear hK K;refine X42 ?_;intro K hK;refine xad cf248 rfl _ rfl ?_;refine Xby ?_;rintro e w ⟨rfl,ws',h1,h2,h3,h4⟩;clear HL;refine X20 ?_;clear hK K;go_wp2_with fail
 go_end0
 exact⟨rfl,ws',h1,h2,h3,h4⟩
end
structure WriT (D:Nat→Prop)(w:World)(A:Option Addr)(n c:Nat)(ws:List Wrt)(ls:List LU):Prop where
 s:WriS w A n c ws
 len:ls.length=ws.length
 tx:∀ (i:Nat)(h:i<ws.length),Tx w ws[i].val.A ws[i].val.n ws[i].val.c (ls.getD i [])
 d:ws≠[]→∀ ad,A=some ad→¬ D ad.block
 dv:∀ (i:Nat)(h:i<ws.length),ls.getD i []≠[]→∀ ad,ws[i].val.A=some ad→¬ D ad.block
section
variable {D D':Nat→Prop}{w w':World}{A:Option Addr}{n c:Nat}{ws:List Wrt}{ls:List LU}
theorem ws_ne(h:ws.flatMap Wrt.cells≠[]):ws≠[]:=(fm_ne Wrt.len (by decide)).1 h
theorem xno{B:Option Addr}{cs:List Value}(h:Rd w B cs)(hs:Stp D w D' w')(hd:cs≠[]→∀ ad,B=some ad→¬ D ad.block):Rd w' B cs∧(cs≠[]→∀ ad,B=some ad→¬ D' ad.block):=by
 refine⟨?_,fun hne ad e hk=>?_⟩
 ·by_cases hne:cs = []
  ·subst hne;exact Rd.nil _ _
  ·exact h.fr hs.fr (fun ad e=>hd hne ad e)
 ·rcases hs.new _ hk with h1 | h1
  ·exact hd hne ad e h1
  ·have:=h.lt hne e;omega
theorem WriT.step(h:WriT D w A n c ws ls)(hs:Stp D w D' w'):WriT D' w' A n c ws ls:=by
 have h1:=xno h.s.rd hs (fun hne=>h.d (ws_ne hne));refine⟨⟨h1.1,h.s.len,h.s.cap⟩,h.len,fun i hi=>?_,fun hne=>h1.2 ((fm_ne Wrt.len (by decide)).2 hne),fun i hi hne=>?_⟩
 ·have h2:=h.tx i hi
  have h3:=xno h2.rd hs (fun hne=>h.dv i hi (bvs_ne hne));exact⟨h2.len,h2.cap,h2.max,h3.1,fun _ _ h=>h⟩
 ·exact(xno (h.tx i hi).rd hs (fun hne=>h.dv i hi (bvs_ne hne))).2 (bvs_ne2 hne)
theorem WriT.take(h:WriT D w A n c ws ls)(m:Nat)(hm:m≤n):WriT D w A m c (ws.take m) (ls.take m):=by
 have hl:=h.s.len;have hc:=h.s.cap
 have e:∀ i,i<m→(ls.take m).getD i []=ls.getD i []:=fun i hi=>by
  rw[List.getD_eq_getElem?_getD,List.getD_eq_getElem?_getD,List.getElem?_take_of_lt hi]
 refine⟨⟨?_,by simp;omega,by omega⟩,by simp[h.len],fun i hi=>?_,fun hne=>h.d (fun e=>hne (by simp[e])),fun i hi hne=>?_⟩
 ·have h1:=h.s.rd.take (m*34)
  have e1:(ws.flatMap Wrt.cells).take (m*34)=(ws.take m).flatMap Wrt.cells:=by
   have h2:ws.flatMap Wrt.cells=(ws.take m).flatMap Wrt.cells++(ws.drop m).flatMap Wrt.cells:=by rw[← List.flatMap_append,List.take_append_drop]
   rw[h2];exact List.take_left' (by rw[xaw Wrt.len,List.length_take];congr 1;omega)
  rwa [e1] at h1
 ·have hi2:i<m:=by simp at hi;omega
  rw[e i hi2,List.getElem_take];exact h.tx i (by omega)
 ·have hi2:i<m:=by simp at hi;omega
  rw[e i hi2] at hne;rw[List.getElem_take];exact h.dv i (by omega) hne
theorem xq3{A:Option Addr}{c lo z:Nat}{ad:Addr}(e:cutA A c lo z=some ad):∃ a0,A=some a0∧a0.block=ad.block:=by
 unfold cutA at e
 split at e
 ·exact⟨ad,e,rfl⟩
 ·cases hA:A with
  | none=>rw[hA] at e;cases e
  | some a0 =>
   rw[hA] at e;simp only[Option.map_some,Option.some.injEq] at e;subst e;exact⟨a0,rfl,by unfold Addr.add;split<;>rfl⟩
theorem WriT.drop(h:WriT D w A n c ws ls)(m:Nat)(hm:m≤n):WriT D w (cutA A c m 34) (n - m) (c - m) (ws.drop m) (ls.drop m):=by
 have hl:=h.s.len;have hc:=h.s.cap
 have e:∀ i,(ls.drop m).getD i []=ls.getD (m+i) []:=fun i=>by
  rw[List.getD_eq_getElem?_getD,List.getD_eq_getElem?_getD,List.getElem?_drop]
 refine⟨⟨?_,by simp;omega,by omega⟩,by simp[h.len],fun i hi=>?_,fun hne ad e'=>?_,fun i hi hne=>?_⟩
 ·have h1:=h.s.rd.cutA (c:=c) (lo:=m) (z:=34) (by rw[xaw Wrt.len];exact Nat.mul_le_mul_right _ (by omega)) ((n - m)*34)
  have e1:((ws.flatMap Wrt.cells).drop (m*34)).take ((n - m)*34)=(ws.drop m).flatMap Wrt.cells:=by
   have h2:ws.flatMap Wrt.cells=(ws.take m).flatMap Wrt.cells++(ws.drop m).flatMap Wrt.cells:=by rw[← List.flatMap_append,List.take_append_drop]
   rw[h2,List.drop_left' (by rw[xaw Wrt.len,List.length_take];congr 1;omega),List.take_of_length_le (by rw[xaw Wrt.len,List.length_drop];exact Nat.mul_le_mul_right _ (by omega))]
  rwa [e1] at h1
 ·rw[e i,List.getElem_drop]
  exact h.tx (m+i) (by simp at hi;omega)
 ·obtain⟨a0,h1,h2⟩:=xq3 e'
  rw[← h2];exact h.d (fun e=>hne (by simp[e])) a0 h1
 ·rw[e i] at hne
  rw[List.getElem_drop];exact h.dv (m+i) (by simp at hi;omega) hne
end
def esOf(ws:List Wrt)(ls:List LU):List (D32×LU):=(ws.map Wrt.key).zip ls
theorem xpg{d:Nat}:∀ {ws:List Wrt} {ls:List LU},ls.length=ws.length→((esOf ws ls).takeWhile fun p=>!tb p.1.l d)=esOf (ws.take (xbv d ws)) (ls.take (xbv d ws))∧((esOf ws ls).dropWhile fun p=>!tb p.1.l d)=esOf (ws.drop (xbv d ws)) (ls.drop (xbv d ws))
 | [],[],_=>⟨rfl,rfl⟩
 | x::ws,l::ls,h=>by
  have ih:=xpg (d:=d) (ws:=ws) (ls:=ls) (by simpa using h);have e:esOf (x::ws) (l::ls)=(x.key,l)::esOf ws ls:=rfl;rw[e,List.takeWhile_cons,List.dropWhile_cons];unfold xbv;rw[List.takeWhile_cons]
  cases hb:tb x.key.l d with
  | true=>exact⟨by simp[hb,esOf],by simp[hb,esOf]⟩
  | false =>
   simp only[hb,Bool.not_false,if_true,qr,List.take_succ_cons,List.drop_succ_cons];exact⟨by rw[ih.1];rfl,by rw[ih.2];rfl⟩
theorem xme(l r:Tre):(xb1 l r).size≤l.size+r.size:=by
 unfold xb1
 split
 ·omega
 ·split
  ·omega
  ·exact Nat.le_refl _
theorem ok_up{d:Nat}{t:Tre}(h:t.Ok (d+1))(hn:t.isIn=false):t.Ok d:=by
 cases t with
 | nil=>trivial
 | leaf k v=>exact⟨h.1,by have:=h.2;omega⟩
 | inner l r=>cases hn
theorem xsw{d:Nat}{l r:Tre}(hd:d<256)(hl:l.Ok (d+1))(hr:r.Ok (d+1))(hbl:∀ k∈l.keys,tb k.l d=false)(hbr:∀ k∈r.keys,tb k.l d=true)(hall:∀ k∈l.keys++r.keys,∀ k'∈l.keys++r.keys,∀ e,e<d→tb k.l e=tb k'.l e):(xb1 l r).Ok d:=by
 unfold xb1
 split
 ·next h=>exact ok_up hr h.2
 ·next h1 =>
  split
  ·next h=>exact ok_up hl h.2
  ·next h2 =>
   refine⟨hd,hl,hr,hbl,hbr,hall,fun e=>?_,fun e=>?_⟩
   ·refine⟨?_,xcf hl e⟩
    cases hi:r.isIn with
    | true=>rfl
    | false=>exact absurd ⟨e,hi⟩ h1
   ·refine⟨?_,xcf hr e⟩
    cases hi:l.isIn with
    | true=>rfl
    | false=>exact absurd ⟨e,hi⟩ h2
theorem xb5{α:Type}(f:α→Bool)(l:List α):l.takeWhile f++l.dropWhile f=l:=List.takeWhile_append_dropWhile
theorem xc6:∀ (n d:Nat) (es:List (D32×LU)),(∀ k∈(xak n d es).keys,k∈es.map Prod.fst)∧(xak n d es).size≤es.length
 | _,_,[]=>⟨fun k hk=>by simp[xak,Tre.keys] at hk,by simp[xak,Tre.size]⟩
 | n,d,[x]=>⟨fun k hk=>by simpa[xak,Tre.keys] using hk,by simp[xak,Tre.size]⟩
 | 0,_,x::y::l=>⟨fun k hk=>by simp[xak,Tre.keys] at hk,by simp[xak,Tre.size]⟩
 | n+1,d,x::y::l=>by
  have h1:=xc6 n (d+1) ((x::y::l).takeWhile fun p=>!tb p.1.l d);have h2:=xc6 n (d+1) ((x::y::l).dropWhile fun p=>!tb p.1.l d);have e:=xb5 (fun p:D32×LU=>!tb p.1.l d) (x::y::l);have hs:xak (n+1) d (x::y::l)=xb1 (xak n (d+1) ((x::y::l).takeWhile fun p=>!tb p.1.l d)) (xak n (d+1) ((x::y::l).dropWhile fun p=>!tb p.1.l d)):=rfl;rw[hs];generalize (x::y::l).takeWhile (fun p=>!tb p.1.l d)=a at *;generalize (x::y::l).dropWhile (fun p=>!tb p.1.l d)=b at *;rw[← e];refine⟨fun k hk=>?_,Nat.le_trans (xme _ _) (by rw[List.length_append];omega)⟩
  have hk2:k∈(xak n (d+1) a).keys++(xak n (d+1) b).keys:=by
   unfold xb1 at hk
   split at hk
   ·simp[hk]
   ·split at hk
    ·simp[hk]
    ·exact hk
  rw[List.map_append,List.mem_append];rcases List.mem_append.1 hk2 with h | h
  ·exact .inl (h1.1 k h)
  ·exact .inr (h2.1 k h)
def xgg:Nat→Nat→List (D32×LU)→Prop
 | _,_,[]=>True
 | _,_,[_]=>True
 | 0,_,_=>False
 | n+1,d,x::y::l=>(∀ p∈(x::y::l).dropWhile (fun p=>!tb p.1.l d),tb p.1.l d=true)∧xgg n (d+1) ((x::y::l).takeWhile fun p=>!tb p.1.l d)∧xgg n (d+1) ((x::y::l).dropWhile fun p=>!tb p.1.l d)
theorem xdt{d:Nat}{es:List (D32×LU)}:∀ p∈es.takeWhile (fun p=>!tb p.1.l d),tb p.1.l d=false:=fun p hp=>by
 have:=List.all_eq_true.1 (List.all_takeWhile (p:=fun p:D32×LU=>!tb p.1.l d) (l:=es)) p hp;simpa using this
theorem xdj:∀ (n d:Nat) (es:List (D32×LU)),d+n=256→xgg n d es→(∀ p∈es,p.2.length≤1024)→(∀ p∈es,∀ q∈es,∀ e,e<d→tb p.1.l e=tb q.1.l e)→(xak n d es).Ok d
 | _,_,[],_,_,_,_=>by simp only[xak];trivial
 | n,d,[x],hd,_,hv,_=>by simp only[xak];exact⟨hv x (by simp),by omega⟩
 | 0,d,x::y::l,_,h,_,_=>h.elim
 | n+1,d,x::y::l,hd,⟨hb,h1,h2⟩,hv,hs=>by
  have hsT:∀ p∈(x::y::l).takeWhile (fun p=>!tb p.1.l d),p∈x::y::l:=fun p hp=>(List.takeWhile_sublist _).subset hp
  have hsD:∀ p∈(x::y::l).dropWhile (fun p=>!tb p.1.l d),p∈x::y::l:=fun p hp=>(List.dropWhile_sublist _).subset hp
  have hT:=xdt (d:=d) (es:=x::y::l);have e:xak (n+1) d (x::y::l)=xb1 (xak n (d+1) ((x::y::l).takeWhile fun p=>!tb p.1.l d)) (xak n (d+1) ((x::y::l).dropWhile fun p=>!tb p.1.l d)):=rfl;rw[e];generalize (x::y::l).takeWhile (fun p=>!tb p.1.l d)=a at *;generalize (x::y::l).dropWhile (fun p=>!tb p.1.l d)=b at *
  have oa:=xdj n (d+1) a (by omega) h1 (fun p hp=>hv p (hsT p hp)) (fun p hp q hq x hx=>by
   by_cases hxd:x=d
   ·subst hxd;rw[hT p hp,hT q hq]
   ·exact hs p (hsT p hp) q (hsT q hq) x (by omega))
  have ob:=xdj n (d+1) b (by omega) h2 (fun p hp=>hv p (hsD p hp)) (fun p hp q hq x hx=>by
   by_cases hxd:x=d
   ·subst hxd;rw[hb p hp,hb q hq]
   ·exact hs p (hsD p hp) q (hsD q hq) x (by omega))
  have ka:=(xc6 n (d+1) a).1;have kb:=(xc6 n (d+1) b).1
  have hmem:∀ k∈(xak n (d+1) a).keys++(xak n (d+1) b).keys,∃ p∈x::y::l,p.1=k:=fun k hk=>by
   rcases List.mem_append.1 hk with h | h
   ·obtain⟨p,hp,rfl⟩:=List.mem_map.1 (ka k h);exact⟨p,hsT p hp,rfl⟩
   ·obtain⟨p,hp,rfl⟩:=List.mem_map.1 (kb k h);exact⟨p,hsD p hp,rfl⟩
  refine xsw (by omega) oa ob (fun k hk=>?_) (fun k hk=>?_) (fun k hk k' hk' x hx=>?_)
  ·obtain⟨p,hp,rfl⟩:=List.mem_map.1 (ka k hk);exact hT p hp
  ·obtain⟨p,hp,rfl⟩:=List.mem_map.1 (kb k hk);exact hb p hp
  ·obtain⟨p,hp,rfl⟩:=hmem k hk
   obtain⟨q,hq,rfl⟩:=hmem k' hk';exact hs p hp q hq x hx
def Tre.has:Tre→D32×LU→Bool
 | .leaf k v,p=>k==p.1&&v==p.2
 | _,_=>false
def newN(t:Tre)(es:List (D32×LU)):Nat:=(es.filter fun p=>!t.has p).length
theorem newN_app(t:Tre)(a b:List (D32×LU)):newN t (a++b)=newN t a+newN t b:=by simp[newN]
theorem newN_pos{t:Tre}{x y:D32×LU}{l:List (D32×LU)}(h:x.1≠y.1):1≤newN t (x::y::l):=by
 unfold newN
 cases t with
 | nil=>simp[Tre.has]
 | inner a b=>simp[Tre.has]
 | leaf k v =>
  by_cases hx:k=x.1
  ·have hy : ¬ k=y.1:=fun e=>h (hx.symm.trans e)
   have e:(Tre.leaf k v).has y=false:=by simp[Tre.has,hy]
   rw[List.filter_cons,List.filter_cons];simp only[e,Bool.not_false,if_true]
   split<;>simp
  ·have e:(Tre.leaf k v).has x=false:=by simp[Tre.has,hx]
   rw[List.filter_cons];simp only[e,Bool.not_false,if_true];simp
abbrev Ent:=D32×LU
def Tre.ents:Tre→List Ent
 | .nil=>[]
 | .leaf k v=>[(k,v)]
 | .inner l r=>l.ents++r.ents
theorem xfk:∀ t:Tre,t.ents.map Prod.fst=t.keys
 | .nil=>rfl
 | .leaf k v=>rfl
 | .inner l r=>by simp[Tre.ents,Tre.keys,xfk l,xfk r]
theorem xbs{t:Tre}{p:Ent}(h:p∈t.ents):p.1∈t.keys:=by
 rw[← xfk];exact List.mem_map_of_mem h
theorem xcl{t:Tre}{k:D32}(h:k∈t.keys):∃ v,(k,v)∈t.ents:=by
 rw[← xfk] at h;obtain⟨p,hp,rfl⟩:=List.mem_map.1 h;exact⟨p.2,hp⟩
theorem xgh:∀ {t:Tre} {d:Nat},t.Ok d→t.isIn=true→∃ k∈t.keys,∃ k'∈t.keys,k≠k'
 | .nil,_,_,h=>by cases h
 | .leaf _ _,_,_,h=>by cases h
 | .inner l r,d,h,_=>by
  obtain⟨_,h1,h2,hl,hr,_,h3,h4⟩:=h;by_cases el:l.keys = []
  ·obtain⟨k,hk,k',hk',hne⟩:=xgh h2 (h3 el).1
   exact⟨k,by simp[Tre.keys,hk],k',by simp[Tre.keys,hk'],hne⟩
  ·by_cases er:r.keys = []
   ·obtain⟨k,hk,k',hk',hne⟩:=xgh h1 (h4 er).1
    exact⟨k,by simp[Tre.keys,hk],k',by simp[Tre.keys,hk'],hne⟩
   ·obtain⟨k,hk⟩:=List.exists_mem_of_ne_nil _ el
    obtain⟨k',hk'⟩:=List.exists_mem_of_ne_nil _ er;refine⟨k,by simp[Tre.keys,hk],k',by simp[Tre.keys,hk'],fun e=>?_⟩;have a:=hl k hk;have b:=hr k' hk';rw[e,b] at a;cases a
theorem xip:∀ {t u:Tre} {d:Nat},t.Ok d→u.Ok d→(∀ p,p∈t.ents↔p∈u.ents)→t=u
 | .nil,u,d,_,hu,h=>by
  have:u.ents = []:=List.eq_nil_iff_forall_not_mem.2 fun p hp=>by have:=(h p).2 hp;cases this
  exact(xcf hu (by rw[← xfk,this];rfl)).symm
 | .leaf k v,.nil,d,_,_,h=>by
  have:=(h (k,v)).1 (by simp[Tre.ents]);cases this
 | .leaf k v,.leaf k' v',d,_,_,h=>by
  have:=(h (k,v)).1 (by simp[Tre.ents]);simp only[Tre.ents,List.mem_singleton,Prod.mk.injEq] at this;rw[this.1,this.2]
 | .leaf k v,.inner l r,d,_,hu,h=>by
  obtain⟨a,ha,b,hb,hne⟩:=xgh hu rfl;obtain⟨va,ha⟩:=xcl ha;obtain⟨vb,hb⟩:=xcl hb;have ea:=(h _).2 ha;have eb:=(h _).2 hb;simp only[Tre.ents,List.mem_singleton,Prod.mk.injEq] at ea eb;exact absurd (ea.1.trans eb.1.symm) hne
 | .inner l r,.nil,d,ht,_,h=>by
  obtain⟨a,ha,_⟩:=xgh ht rfl;obtain⟨va,ha⟩:=xcl ha;have:=(h _).1 ha;cases this
 | .inner l r,.leaf k v,d,ht,_,h=>by
  obtain⟨a,ha,b,hb,hne⟩:=xgh ht rfl;obtain⟨va,ha⟩:=xcl ha;obtain⟨vb,hb⟩:=xcl hb;have ea:=(h _).1 ha;have eb:=(h _).1 hb;simp only[Tre.ents,List.mem_singleton,Prod.mk.injEq] at ea eb;exact absurd (ea.1.trans eb.1.symm) hne
 | .inner l r,.inner l' r',d,ht,hu,h=>by
  obtain⟨_,h1,h2,hl,hr,_,_,_⟩:=ht;obtain⟨_,g1,g2,gl,gr,_,_,_⟩:=hu
  have key:∀ {a b a' b':Tre} {x y:Bool},x≠y→(∀ k∈a.keys,tb k.l d=x)→(∀ k∈b'.keys,tb k.l d=y)→(∀ p,p∈a.ents→p∈a'.ents∨p∈b'.ents)→∀ p,p∈a.ents→p∈a'.ents:=by
   intro a b a' b' x y hxy ha hb hab p hp;rcases hab p hp with h3 | h3
   ·exact h3
   ·exact absurd ((ha _ (xbs hp)).symm.trans (hb _ (xbs h3))) hxy
  have el:l=l':=xip h1 g1 fun p =>
   ⟨key (a:=l) (b:=r) (a':=l') (b':=r') (x:=false) (y:=true) (by decide) hl gr (fun p hp=>by have:=(h p).1 (by simp[Tre.ents,hp]);simpa[Tre.ents] using this) p,
     key (a:=l') (b:=r') (a':=l) (b':=r) (x:=false) (y:=true) (by decide) gl hr (fun p hp=>by have:=(h p).2 (by simp[Tre.ents,hp]);simpa[Tre.ents] using this) p⟩
  have er:r=r':=xip h2 g2 fun p =>
   ⟨key (a:=r) (b:=l) (a':=r') (b':=l') (x:=true) (y:=false) (by decide) hr gl (fun p hp=>by have:=(h p).1 (by simp[Tre.ents,hp]);simpa[Tre.ents,or_comm] using this) p,
     key (a:=r') (b:=l') (a':=r) (b':=l) (x:=true) (y:=false) (by decide) gr hl (fun p hp=>by have:=(h p).2 (by simp[Tre.ents,hp]);simpa[Tre.ents,or_comm] using this) p⟩
  rw[el,er]
theorem xky:∀ {t:Tre} {d:Nat},t.Ok d→∀ {k:D32} {v v':LU},(k,v)∈t.ents→(k,v')∈t.ents→v=v'
 | .nil,_,_,_,_,_,h,_=>by cases h
 | .leaf k0 v0,_,_,_,_,_,h,h'=>by
  simp only[Tre.ents,List.mem_singleton,Prod.mk.injEq] at h h';rw[h.2,h'.2]
 | .inner l r,d,⟨_,h1,h2,hl,hr,_,_,_⟩,k,v,v',h,h'=>by
  rcases List.mem_append.1 h with a | a
  ·rcases List.mem_append.1 h' with b | b
   ·exact xky h1 a b
   ·have q1:=hl _ (xbs a)
    have q2:=hr _ (xbs b);rw[q1] at q2;cases q2
  ·rcases List.mem_append.1 h' with b | b
   ·have q1:=hr _ (xbs a)
    have q2:=hl _ (xbs b);rw[q1] at q2;cases q2
   ·exact xky h2 a b
theorem xhx:∀ {t:Tre} {d:Nat},t.Ok d→∀ p∈t.ents,p.2.length≤1024
 | .nil,_,_,_,h=>by cases h
 | .leaf k v,_,h,p,hp=>by
  simp only[Tre.ents,List.mem_singleton] at hp;subst hp;exact h.1
 | .inner l r,d,⟨_,h1,h2,_⟩,p,hp=>by
  rcases List.mem_append.1 hp with a | a
  ·exact xhx h1 p a
  ·exact xhx h2 p a
theorem xmf{d:Nat}{l r:Tre}(hl:l.Ok d)(hr:r.Ok d):(xb1 l r).ents=l.ents++r.ents:=by
 unfold xb1
 split
 ·next h=>rw[xcf hl h.1];rfl
 ·split
  ·next h=>rw[xcf hr h.1];simp[Tre.ents]
  ·rfl
theorem xc7:∀ (n d:Nat)(es:List Ent),d+n=256→xgg n d es→(∀ p∈es,p.2.length≤1024)→(∀ p∈es,∀ q∈es,∀ e,e<d→tb p.1.l e=tb q.1.l e)→(xak n d es).ents=es
 | _,_,[],_,_,_,_=>by simp only[xak];rfl
 | n,d,[x],_,_,_,_=>by simp only[xak];rfl
 | 0,d,x::y::l,_,h,_,_=>h.elim
 | n+1,d,x::y::l,hd,⟨hb,h1,h2⟩,hv,hs=>by
  have hsT:∀ p∈(x::y::l).takeWhile (fun p=>!tb p.1.l d),p∈x::y::l:=fun p hp=>(List.takeWhile_sublist _).subset hp
  have hsD:∀ p∈(x::y::l).dropWhile (fun p=>!tb p.1.l d),p∈x::y::l:=fun p hp=>(List.dropWhile_sublist _).subset hp
  have hT:=xdt (d:=d) (es:=x::y::l);have e:xak (n+1) d (x::y::l)=xb1 (xak n (d+1) ((x::y::l).takeWhile fun p=>!tb p.1.l d)) (xak n (d+1) ((x::y::l).dropWhile fun p=>!tb p.1.l d)):=rfl;have e3:=xb5 (fun p:Ent=>!tb p.1.l d) (x::y::l);rw[e];generalize (x::y::l).takeWhile (fun p=>!tb p.1.l d)=a at *;generalize (x::y::l).dropWhile (fun p=>!tb p.1.l d)=b at *
  have sa:∀ p∈a,∀ q∈a,∀ e,e<d+1→tb p.1.l e=tb q.1.l e:=fun p hp q hq x hx=>by
   by_cases hxd:x=d
   ·subst hxd;rw[hT p hp,hT q hq]
   ·exact hs p (hsT p hp) q (hsT q hq) x (by omega)
  have sb:∀ p∈b,∀ q∈b,∀ e,e<d+1→tb p.1.l e=tb q.1.l e:=fun p hp q hq x hx=>by
   by_cases hxd:x=d
   ·subst hxd;rw[hb p hp,hb q hq]
   ·exact hs p (hsD p hp) q (hsD q hq) x (by omega)
  have oa:=xdj n (d+1) a (by omega) h1 (fun p hp=>hv p (hsT p hp)) sa;have ob:=xdj n (d+1) b (by omega) h2 (fun p hp=>hv p (hsD p hp)) sb;rw[xmf oa ob,xc7 n (d+1) a (by omega) h1 (fun p hp=>hv p (hsT p hp)) sa,xc7 n (d+1) b (by omega) h2 (fun p hp=>hv p (hsD p hp)) sb,e3]
theorem xph{p q:LU}(hp:p.length=32)(hq:q.length=32)(d:Nat)(hd:d<256)(hs:∀ e,e<d→tb p e=tb q e)(hlt:nOf p<nOf q)(hb:tb p d=true):tb q d=true:=by
 cases hc:tb q d with
 | true=>rfl
 | false =>
  exfalso;have e1:nOf p / 2^(256 - d)=nOf q / 2^(256 - d):=(comm_ge hp hq d (by omega)).1 (Nat.le_of_not_lt fun h=>xc1 p q (by omega) (hs _ h));rw[xdw p hp d hd] at hb;rw[xdw q hq d hd] at hc
  have h2:∀ n:Nat,n / 2^(255 - d)=2*(n / 2^(256 - d))+(n.testBit (255 - d)).toNat:=fun n=>by
   have e:2^(256 - d)=2^(255 - d)*2:=by rw[← Nat.pow_succ];congr 1;omega
   rw[e,← Nat.div_div_eq_div_mul,Nat.testBit_eq_decide_div_mod_eq];have:=Nat.mod_two_eq_zero_or_one (n / 2^(255 - d));rcases this with h | h<;>simp[h]<;>omega
  have hp2:=h2 (nOf p);have hq2:=h2 (nOf q);rw[hb] at hp2;rw[hc] at hq2
  have h3:nOf q / 2^(255 - d)<nOf p / 2^(255 - d):=by
   rw[hp2,hq2,e1];simp
  have h4:=Nat.div_le_div_right (c:=2^(255 - d)) (Nat.le_of_lt hlt);omega
def Rise(es:List Ent):Prop:=es.Pairwise fun p q=>nOf p.1.l<nOf q.1.l
theorem xew{d:Nat}(hd:d<256):∀ {es:List Ent},Rise es→(∀ p∈es,∀ q∈es,∀ e,e<d→tb p.1.l e=tb q.1.l e)→∀ p∈es.dropWhile (fun p=>!tb p.1.l d),tb p.1.l d=true
 | [],_,_,p,hp=>by cases hp
 | x::es,hr,hs,p,hp=>by
  obtain⟨h1,h2⟩:=List.pairwise_cons.1 hr
  cases hb:tb x.1.l d with
  | false =>
   rw[List.dropWhile_cons,hb] at hp;exact xew hd h2 (fun p hp q hq=>hs p (by simp[hp]) q (by simp[hq])) p (by simpa using hp)
  | true =>
   rw[List.dropWhile_cons,hb] at hp;rcases List.mem_cons.1 (by simpa using hp) with rfl | hp
   ·exact hb
   ·exact xph x.1.h p.1.h d hd (hs x (by simp) p (by simp[hp])) (h1 p hp) hb
theorem xcv:∀ (n d:Nat)(es:List Ent),d+n=256→Rise es→(∀ p∈es,∀ q∈es,∀ e,e<d→tb p.1.l e=tb q.1.l e)→xgg n d es
 | n,d,[],_,_,_=>by cases n<;>trivial
 | n,d,[x],_,_,_=>by cases n<;>trivial
 | 0,d,x::y::l,hd,hr,hs=>by
  obtain⟨h1,_⟩:=List.pairwise_cons.1 hr;have h2:=h1 y (by simp);have e:=xmz x.1.h y.1.h (fun e he=>hs x (by simp) y (by simp) e (by omega));rw[e] at h2;exact absurd h2 (Nat.lt_irrefl _)
 | n+1,d,x::y::l,hd,hr,hs=>by
  have hdb:=xew (d:=d) (by omega) hr hs;have hsT:((x::y::l).takeWhile (fun p=>!tb p.1.l d)).Sublist (x::y::l):=List.takeWhile_sublist _;have hsD:((x::y::l).dropWhile (fun p=>!tb p.1.l d)).Sublist (x::y::l):=List.dropWhile_sublist _;have hT:=xdt (d:=d) (es:=x::y::l);refine⟨hdb,xcv n (d+1) _ (by omega) (hr.sublist hsT) fun p hp q hq e he=>?_,xcv n (d+1) _ (by omega) (hr.sublist hsD) fun p hp q hq e he=>?_⟩
  ·by_cases hed:e=d
   ·subst hed;rw[hT p hp,hT q hq]
   ·exact hs p (hsT.subset hp) q (hsT.subset hq) e (by omega)
  ·by_cases hed:e=d
   ·subst hed;rw[hdb p hp,hdb q hq]
   ·exact hs p (hsD.subset hp) q (hsD.subset hq) e (by omega)
theorem xe3{es:List Ent}(h:Rise es):(es.map Prod.fst).Nodup:=by
 rw[List.nodup_iff_pairwise_ne,List.pairwise_map];exact h.imp fun hlt e=>by rw[e] at hlt;exact Nat.lt_irrefl _ hlt
end Go.Proofs.YtkjjdgnkelchfaaGreat
