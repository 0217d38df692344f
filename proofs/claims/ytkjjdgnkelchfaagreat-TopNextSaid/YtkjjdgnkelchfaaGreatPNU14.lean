import Derived.Test.YtkjjdgnkelchfaaGreatPNU13
set_option linter.unusedSimpArgs false
set_option linter.unusedVariables false
set_option maxRecDepth 100000
set_option maxHeartbeats 16000000
namespace Go.Proofs.YtkjjdgnkelchfaaGreat
open Go Go.RowKit Go.Proofs.Tryz
section
variable {D:Nat→Prop}{w:World}{gs g:Nat}{σ:Sb}{vs vf:Sv}
theorem xlk(h:StP D w gs g σ vs vf)(R:List Int)(hI:σ.Inv R [])(A:Option Addr)(c d:Nat)(x:Wrt)(l:LU)(hW:WriT D w A 1 c [x] [l])(hl:l.length≤1024)(hroom:σ.used+1≤σ.room) :
  Calls prog 226 #[pG gs,iV 0,iV d,.slice A 1 c] w (MadeT D w gs g σ R d (.leaf x.key l) 1):=by
 obtain⟨ad,hA,_⟩:=hW.s.at_ 0 (by simp);refine Xd9 ?_;intro HSV
 have hrd:∀ (L:BL)(u:World),Loc w (Old w) L u→Rd u (some (ad.add (0*34))) x.cells:=fun L u hu=>by
  obtain⟨ad2,hA2,h2⟩:=(hW.s.below hu.below).at_ 0 (by simp);rw[hA] at hA2;cases hA2;exact h2
 have HK:∀ (L:BL)(u:World),Loc w (Old w) L u→Hid (Rd u (some ((ad.add (0*34)).add 0)) x.key.c):=fun L u hu=>hZ (by
  have h1:=(hrd L u hu).cut 0 32;rw[Wrt.g_key] at h1
  exact h1)
 have HV:∀ (L:BL)(u:World),Loc w (Old w) L u→Hid (Rd u (some ((ad.add (0*34)).add 33)) [x.val.v]):=fun L u hu=>hZ (by
  have h1:=(hrd L u hu).cut 33 1;rw[xej (Wrt.g_val x)] at h1
  exact h1)
 refine Xda ?_;intro hD0
 have hrd2:∀ (L:BL)(u:World),Loc w (fun k=>Old w k∧¬ D k) L u→Rd u (some (ad.add (0*34))) x.cells:=fun L u hu=>by
  obtain⟨ad2,hA2,h2⟩:=hW.s.at_ 0 (by simp);rw[hA] at hA2;cases hA2;refine h2.keepE hu (fun _ ad3 e=>?_);have e2:(ad.add (0*34))=ad3:=by simpa using e
  rw[← e2,show(ad.add (0*34)).block=ad.block by unfold Addr.add;split<;>rfl];exact hD0 ad hA
 have HK2:∀ (L:BL)(u:World),Loc w (fun k=>Old w k∧¬ D k) L u→Hid (Rd u (some ((ad.add (0*34)).add 0)) x.key.c):=fun L u hu=>hZ (by
  have h1:=(hrd2 L u hu).cut 0 32;rw[Wrt.g_key] at h1
  exact h1)
 have HV2:∀ (L:BL)(u:World),Loc w (fun k=>Old w k∧¬ D k) L u→Hid (Rd u (some ((ad.add (0*34)).add 33)) [x.val.v]):=fun L u hu=>hZ (by
  have h1:=(hrd2 L u hu).cut 33 1;rw[xej (Wrt.g_val x)] at h1
  exact h1)
 refine Xdb ?_;intro htx;refine Xdc ?_;intro HX;have HTX:=hZ (And.intro htx.len (And.intro htx.cap (And.intro htx.max (show x.val.n≤1024 by rw[← htx.len];exact hl))));refine Xdd ?_;intro HH HI HRM;have G0:Hid (Got σ 0 Nd.z [] false):=hZ (.inr ⟨rfl,by omega,rfl,rfl⟩);have k3:((Nd.z.kind:Int)==1)=false:=rfl;refine Xde ?_;intro CL;clear h hI hW hl hroom hrd hrd2 hD0 hA htx;obtain⟨w0,rfl,HL⟩:=lS w;go_enter func226,ntmps226;go_upto_region 0 with fail;refine X1j ?_;go_upto_region 1 with fail;refine Xcy ?_;go_upto_region 2 with fail;refine X7y ?_;go_upto_region 4 with fail;refine X7y ?_;go_upto_region 5 with fail;refine Xdf ?_;refine X3v ?_;intro HL;refine Xg ?_;intro K hK;refine X7w ?_;refine Xdg ?_;refine X7q ?_;clear hK K;intro w HL;refine xab rfl rfl HL (fun W hW=>xao (b:=false) _ _ rfl _ _ rfl rfl k3) ?_
 refine Xb4 ?_;refine X8k ?_;refine X8o ?_;refine Xb4 ?_;refine X8k ?_;refine X8j ?_;refine X8m ?_;refine X8k ?_;refine X3i ?_;refine Xb ?_;go_upto_region 7 with fail;refine Xdh ?_;intro CL7 hS7;replace HL:=HL.less (D':=fun k=>Old w0 k∧¬ D k) (fun k h=>h.1);refine Xdi ?_;refine X3v ?_;intro HL;refine Xdj ?_;refine X6 ?_;refine Xdk ?_;refine X6 ?_;refine Xdl ?_;refine X3g ?_;refine Xdm ?_;refine X6 ?_;refine Xdn ?_;refine X6 ?_;refine Xdo ?_;refine Xh ?_;intro K hK;refine X9m ?_;refine Xdp ?_;rintro e w ⟨D2,vs2,vf2,y,rfl,hP2,hS2⟩;have HP2:=hZ hP2;have HS2:=hZ (hS7.trans hS2);replace HL:=HL.frame hS2.fr (fun k hk n=>n.2 hk) (fun x hx=>by cases hx);clear hP2 hS2;refine X7e ?_;clear hK K;go_upto_region 8 with fail;refine X7v ?_;go_wp2_with fail;go_ret;have HF:=xgv HI.out HRM.out x.key l y d HP2.out
 exact⟨_,D2,vs2,vf2,_,rfl,HP2.out,HS2.out,by rw[if_neg HF.2.2.2.2.2];exact HF.1,HF.2.1,HF.2.2.1,HF.2.2.2.1,by rw[HF.2.2.2.2.1];omega⟩
end
section
variable {D:Nat→Prop}{w:World}{gs g:Nat}{σ:Sb}{vs vf:Sv}
theorem xll(h:StP D w gs g σ vs vf)(zo:Int)(d0:Nat)(k:D32)(v:LU)(ht:IsT σ zo d0 (.leaf k v))(R:List Int)(hI:σ.Inv R [])(A:Option Addr)(c d:Nat)(x:Wrt)(l:LU)(hW:WriT D w A 1 c [x] [l])(hl:l.length≤1024)(hroom:σ.used+1≤σ.room)(hne : ¬ k.l=x.key.l) :
  Calls prog 226 #[pG gs,iV zo,iV d,.slice A 1 c] w (MadeT D w gs g σ R d (.leaf x.key l) 1):=by
 obtain⟨ad,hA,_⟩:=hW.s.at_ 0 (by simp);refine Xd9 ?_;intro HSV
 have hrd:∀ (L:BL)(u:World),Loc w (Old w) L u→Rd u (some (ad.add (0*34))) x.cells:=fun L u hu=>by
  obtain⟨ad2,hA2,h2⟩:=(hW.s.below hu.below).at_ 0 (by simp);rw[hA] at hA2;cases hA2;exact h2
 have HK:∀ (L:BL)(u:World),Loc w (Old w) L u→Hid (Rd u (some ((ad.add (0*34)).add 0)) x.key.c):=fun L u hu=>hZ (by
  have h1:=(hrd L u hu).cut 0 32;rw[Wrt.g_key] at h1
  exact h1)
 have HV:∀ (L:BL)(u:World),Loc w (Old w) L u→Hid (Rd u (some ((ad.add (0*34)).add 33)) [x.val.v]):=fun L u hu=>hZ (by
  have h1:=(hrd L u hu).cut 33 1;rw[xej (Wrt.g_val x)] at h1
  exact h1)
 refine Xda ?_;intro hD0
 have hrd2:∀ (L:BL)(u:World),Loc w (fun k=>Old w k∧¬ D k) L u→Rd u (some (ad.add (0*34))) x.cells:=fun L u hu=>by
  obtain⟨ad2,hA2,h2⟩:=hW.s.at_ 0 (by simp);rw[hA] at hA2;cases hA2;refine h2.keepE hu (fun _ ad3 e=>?_);have e2:(ad.add (0*34))=ad3:=by simpa using e
  rw[← e2,show(ad.add (0*34)).block=ad.block by unfold Addr.add;split<;>rfl];exact hD0 ad hA
 have HK2:∀ (L:BL)(u:World),Loc w (fun k=>Old w k∧¬ D k) L u→Hid (Rd u (some ((ad.add (0*34)).add 0)) x.key.c):=fun L u hu=>hZ (by
  have h1:=(hrd2 L u hu).cut 0 32;rw[Wrt.g_key] at h1
  exact h1)
 have HV2:∀ (L:BL)(u:World),Loc w (fun k=>Old w k∧¬ D k) L u→Hid (Rd u (some ((ad.add (0*34)).add 33)) [x.val.v]):=fun L u hu=>hZ (by
  have h1:=(hrd2 L u hu).cut 33 1;rw[xej (Wrt.g_val x)] at h1
  exact h1)
 refine Xdb ?_;intro htx;refine Xdc ?_;intro HX;have HTX:=hZ (And.intro htx.len (And.intro htx.cap (And.intro htx.max (show x.val.n≤1024 by rw[← htx.len];exact hl))));refine Xdd ?_;intro HH HI HRM;obtain⟨i,hi,hzi,hci,hvi,hki,hkk,_⟩:=ht;obtain⟨nd,hnd⟩:∃ nd,σ.slots[i].nd=nd:=⟨_,rfl⟩;rw[hnd] at hki hkk;refine Xdq ?_;intro G0;have k3:((nd.kind:Int)==1)=true:=by rw[hki];rfl
 have k12:(nd.key.l==x.key.l)=false:=by rw[hkk];simpa using hne
 refine Xde ?_;intro CL;clear h hI hW hl hroom hne hzi hci hvi hki hkk hnd hrd hrd2 hD0 hA htx;obtain⟨w0,rfl,HL⟩:=lS w;go_enter func226,ntmps226;go_upto_region 0 with fail;refine X1j ?_;go_upto_region 1 with fail;refine Xcy ?_;go_upto_region 2 with fail;refine X7y ?_;go_upto_region 4 with fail;refine X7y ?_;go_upto_region 5 with fail;refine Xdf ?_;refine X3v ?_;intro HL;refine Xg ?_;intro K hK;refine X7w ?_;refine Xdr ?_;refine X7q ?_;clear hK K;intro w HL;refine Xds ?_;refine X72 ?_;refine Xdt ?_;refine X6 ?_;refine Xdk ?_;refine X6 ?_;refine Xdu ?_;refine X91 ?_;intro K hK;refine Xdv ?_;refine X7q ?_;clear hK K;intro w HL;refine xab rfl rfl HL (fun W hW=>xd1 ab23 _ _ rfl nd.key x.key rfl rfl false k12) ?_;refine X3j ?_;refine Xb4 ?_;refine X8k ?_;refine X8j ?_;refine X8m ?_;refine X8k ?_;refine X3i ?_;refine Xb ?_
 go_upto_region 7 with fail;refine Xdh ?_;intro CL7 hS7;replace HL:=HL.less (D':=fun k=>Old w0 k∧¬ D k) (fun k h=>h.1);refine Xdi ?_;refine X3v ?_;intro HL;refine Xdj ?_;refine X6 ?_;refine Xdk ?_;refine X6 ?_;refine Xdl ?_;refine X3g ?_;refine Xdm ?_;refine X6 ?_;refine Xdn ?_;refine X6 ?_;refine Xdo ?_;refine Xh ?_;intro K hK;refine X9m ?_;refine Xdp ?_;rintro e w ⟨D2,vs2,vf2,y,rfl,hP2,hS2⟩;have HP2:=hZ hP2;have HS2:=hZ (hS7.trans hS2);replace HL:=HL.frame hS2.fr (fun k hk n=>n.2 hk) (fun x hx=>by cases hx);clear hP2 hS2;refine X7e ?_;clear hK K;go_upto_region 8 with fail;refine X7v ?_;go_wp2_with fail;go_ret;have HF:=xgv HI.out HRM.out x.key l y d HP2.out;exact⟨_,D2,vs2,vf2,_,rfl,HP2.out,HS2.out,by rw[if_neg HF.2.2.2.2.2];exact HF.1,HF.2.1,HF.2.2.1,HF.2.2.2.1,by rw[HF.2.2.2.2.1];omega⟩
end
theorem xmh{P:Program}{w:World}{a:Act}{o:Oper}{T T':TypeId}{b:Bool}(hT:P.underlying T=some .string)(x y:Operand)(ho:o.op=.binOp .eql T x y T')(l k:LU)(hx:a.eval x=.string ⟨l.toArray⟩)(hy:a.eval y=.string ⟨k.toArray⟩)(h:(l==k)=b) :
  (execOp a.eval o).run P w=.ok (.value (.bool b)) w:=by
 unfold execOp;simp only[ho,hx,hy];go_simp
section
variable {D:Nat→Prop}{w:World}{gs g:Nat}{σ:Sb}{vs vf:Sv}
theorem xkz(h:StP D w gs g σ vs vf)(zo:Int)(d0:Nat)(k:D32)(v:LU)(ht:IsT σ zo d0 (.leaf k v))(R:List Int)(hI:σ.Inv R [])(A:Option Addr)(c d:Nat)(x:Wrt)(l:LU)(hW:WriT D w A 1 c [x] [l])(hl:l.length≤1024)(hroom:R.length≤536870912)(hke:k.l=x.key.l)(hvl:v=l)(hvn:v.length≤1024) :
  Calls prog 226 #[pG gs,iV zo,iV d,.slice A 1 c] w (MadeT D w gs g σ R d (.leaf k v) 0):=by
 have ht0:IsT σ zo d (.leaf k v):=ht;obtain⟨ad,hA,_⟩:=hW.s.at_ 0 (by simp);refine Xd9 ?_;intro HSV
 have hrd:∀ (L:BL)(u:World),Loc w (Old w) L u→Rd u (some (ad.add (0*34))) x.cells:=fun L u hu=>by
  obtain⟨ad2,hA2,h2⟩:=(hW.s.below hu.below).at_ 0 (by simp);rw[hA] at hA2;cases hA2;exact h2
 have HK:∀ (L:BL)(u:World),Loc w (Old w) L u→Hid (Rd u (some ((ad.add (0*34)).add 0)) x.key.c):=fun L u hu=>hZ (by
  have h1:=(hrd L u hu).cut 0 32;rw[Wrt.g_key] at h1
  exact h1)
 have HV:∀ (L:BL)(u:World),Loc w (Old w) L u→Hid (Rd u (some ((ad.add (0*34)).add 33)) [x.val.v]):=fun L u hu=>hZ (by
  have h1:=(hrd L u hu).cut 33 1;rw[xej (Wrt.g_val x)] at h1
  exact h1)
 refine Xda ?_;intro hD0
 have hrd2:∀ (L:BL)(u:World),Loc w (fun k=>Old w k∧¬ D k) L u→Rd u (some (ad.add (0*34))) x.cells:=fun L u hu=>by
  obtain⟨ad2,hA2,h2⟩:=hW.s.at_ 0 (by simp);rw[hA] at hA2;cases hA2;refine h2.keepE hu (fun _ ad3 e=>?_);have e2:(ad.add (0*34))=ad3:=by simpa using e
  rw[← e2,show(ad.add (0*34)).block=ad.block by unfold Addr.add;split<;>rfl];exact hD0 ad hA
 have HK2:∀ (L:BL)(u:World),Loc w (fun k=>Old w k∧¬ D k) L u→Hid (Rd u (some ((ad.add (0*34)).add 0)) x.key.c):=fun L u hu=>hZ (by
  have h1:=(hrd2 L u hu).cut 0 32;rw[Wrt.g_key] at h1
  exact h1)
 have HV2:∀ (L:BL)(u:World),Loc w (fun k=>Old w k∧¬ D k) L u→Hid (Rd u (some ((ad.add (0*34)).add 33)) [x.val.v]):=fun L u hu=>hZ (by
  have h1:=(hrd2 L u hu).cut 33 1;rw[xej (Wrt.g_val x)] at h1
  exact h1)
 refine Xdb ?_;intro htx;refine Xdc ?_;intro HX;have HTX:=hZ (And.intro htx.len (And.intro htx.cap (And.intro htx.max (show x.val.n≤1024 by rw[← htx.len];exact hl))));refine X97 ?_;intro HH HI;have HRL:=hZ hroom;obtain⟨i,hi,hzi,hci,hvi,hki,hkk,_⟩:=ht;obtain⟨nd,hnd⟩:∃ nd,σ.slots[i].nd=nd:=⟨_,rfl⟩;rw[hnd] at hki hkk;refine Xdq ?_;intro G0;have k3:((nd.kind:Int)==1)=true:=by rw[hki];rfl
 have k12:(nd.key.l==x.key.l)=true:=by rw[hkk];simpa using hke
 have k24:(v==l)=true:=by simpa using hvl
 have HVN:Hid (v.length≤1024):=hZ hvn;have HT:=hZ ht0;clear ht0 h hI hW hl hroom hke hvl hvn hzi hci hvi hki hkk hnd hrd hrd2 hD0 hA htx;obtain⟨w0,rfl,HL⟩:=lS w;go_enter func226,ntmps226;go_upto_region 0 with fail;refine X1j ?_;go_upto_region 1 with fail;refine Xcy ?_;go_upto_region 2 with fail;refine X7y ?_;go_upto_region 4 with fail;refine X7y ?_;go_upto_region 5 with fail;refine Xdw ?_;refine X3v ?_;intro HL;refine Xg ?_;intro K hK;refine X7w ?_;refine Xdr ?_;refine X7q ?_;clear hK K;intro w HL;refine Xds ?_;refine X72 ?_;refine Xdt ?_;refine X6 ?_;refine Xdk ?_;refine X6 ?_;refine Xdu ?_;refine X91 ?_;intro K hK;refine Xdv ?_;refine X7q ?_;clear hK K;intro w HL;refine Xdx ?_;refine X72 ?_;refine Xdy ?_;refine X6 ?_;refine Xdn ?_;refine Xdz ?_;refine X6 ?_;refine Xe0 ?_;refine Xh ?_;intro K hK;refine X96 ?_;refine Xe1 ?_
 rintro e w ⟨v1,rfl,hov,hb⟩;obtain⟨y,rfl,hyl,hyc,hym,hyr,_⟩:=xkt hov;have HY:=hZ (And.intro hyl hyr);replace HL:=HL.next hb;clear hb hov hyl hyc hym hyr;refine X79 ?_;clear hK K;intro K hK;refine xbj (xbz bt _ rfl y.A y.n y.c rfl v HY.out.2 HY.out.1) ?_;refine X3x ?_;clear hK K;refine Xe2 ?_;go_upto_region 6 with fail;refine X2j ?_;intro K hK;refine Xe3 ?_;refine X1w ?_;(with_reducible refine(xgt (HH.out.below HL.below) R HI.out zo d (.leaf k v) HT.out HRL.out).mono ?_);rintro e w ⟨z1,D2,vs2,vf2,σ2,rfl,hP2,hS2,hI2,hY2,hT2,hr2,hu2⟩;have HP2:=hZ hP2;have HS2:=hZ ((Stp.of_below HL.below).trans hS2);have HI2:=hZ hI2;have HY2:=hZ hY2;have HT2:=hZ hT2;clear hP2 hS2 hI2 hY2 hT2;refine X2m ?_;clear hK K;go_wp2_with fail;go_ret
 exact⟨_,D2,vs2,vf2,_,rfl,HP2.out,HS2.out,HI2.out,HY2.out,HT2.out,hr2,hu2⟩
theorem xlm(h:StP D w gs g σ vs vf)(zo:Int)(d0:Nat)(k:D32)(v:LU)(ht:IsT σ zo d0 (.leaf k v))(R:List Int)(hI:σ.Inv R [])(A:Option Addr)(c d:Nat)(x:Wrt)(l:LU)(hW:WriT D w A 1 c [x] [l])(hl:l.length≤1024)(hroom:σ.used+1≤σ.room)(hke:k.l=x.key.l)(hvl : ¬ v=l)(hvn:v.length≤1024) :
  Calls prog 226 #[pG gs,iV zo,iV d,.slice A 1 c] w (MadeT D w gs g σ R d (.leaf x.key l) 1):=by
 obtain⟨ad,hA,_⟩:=hW.s.at_ 0 (by simp);refine Xd9 ?_;intro HSV
 have hrd:∀ (L:BL)(u:World),Loc w (Old w) L u→Rd u (some (ad.add (0*34))) x.cells:=fun L u hu=>by
  obtain⟨ad2,hA2,h2⟩:=(hW.s.below hu.below).at_ 0 (by simp);rw[hA] at hA2;cases hA2;exact h2
 have HK:∀ (L:BL)(u:World),Loc w (Old w) L u→Hid (Rd u (some ((ad.add (0*34)).add 0)) x.key.c):=fun L u hu=>hZ (by
  have h1:=(hrd L u hu).cut 0 32;rw[Wrt.g_key] at h1
  exact h1)
 have HV:∀ (L:BL)(u:World),Loc w (Old w) L u→Hid (Rd u (some ((ad.add (0*34)).add 33)) [x.val.v]):=fun L u hu=>hZ (by
  have h1:=(hrd L u hu).cut 33 1;rw[xej (Wrt.g_val x)] at h1
  exact h1)
 refine Xda ?_;intro hD0
 have hrd2:∀ (L:BL)(u:World),Loc w (fun k=>Old w k∧¬ D k) L u→Rd u (some (ad.add (0*34))) x.cells:=fun L u hu=>by
  obtain⟨ad2,hA2,h2⟩:=hW.s.at_ 0 (by simp);rw[hA] at hA2;cases hA2;refine h2.keepE hu (fun _ ad3 e=>?_);have e2:(ad.add (0*34))=ad3:=by simpa using e
  rw[← e2,show(ad.add (0*34)).block=ad.block by unfold Addr.add;split<;>rfl];exact hD0 ad hA
 have HK2:∀ (L:BL)(u:World),Loc w (fun k=>Old w k∧¬ D k) L u→Hid (Rd u (some ((ad.add (0*34)).add 0)) x.key.c):=fun L u hu=>hZ (by
  have h1:=(hrd2 L u hu).cut 0 32;rw[Wrt.g_key] at h1
  exact h1)
 have HV2:∀ (L:BL)(u:World),Loc w (fun k=>Old w k∧¬ D k) L u→Hid (Rd u (some ((ad.add (0*34)).add 33)) [x.val.v]):=fun L u hu=>hZ (by
  have h1:=(hrd2 L u hu).cut 33 1;rw[xej (Wrt.g_val x)] at h1
  exact h1)
 refine Xdb ?_;intro htx;refine Xdc ?_;intro HX;have HTX:=hZ (And.intro htx.len (And.intro htx.cap (And.intro htx.max (show x.val.n≤1024 by rw[← htx.len];exact hl))));refine Xdd ?_;intro HH HI HRM;obtain⟨i,hi,hzi,hci,hvi,hki,hkk,_⟩:=ht;obtain⟨nd,hnd⟩:∃ nd,σ.slots[i].nd=nd:=⟨_,rfl⟩;rw[hnd] at hki hkk;refine Xdq ?_;intro G0;have k3:((nd.kind:Int)==1)=true:=by rw[hki];rfl
 have k12:(nd.key.l==x.key.l)=true:=by rw[hkk];simpa using hke
 have k24:(v==l)=false:=by simpa using hvl
 have HVN:Hid (v.length≤1024):=hZ hvn;refine Xde ?_;intro CL;clear h hI hW hl hroom hke hvl hvn hzi hci hvi hki hkk hnd hrd hrd2 hD0 hA htx;obtain⟨w0,rfl,HL⟩:=lS w;go_enter func226,ntmps226;go_upto_region 0 with fail;refine X1j ?_;go_upto_region 1 with fail;refine Xcy ?_;go_upto_region 2 with fail;refine X7y ?_;go_upto_region 4 with fail;refine X7y ?_;go_upto_region 5 with fail;refine Xdw ?_;refine X3v ?_;intro HL;refine Xg ?_;intro K hK;refine X7w ?_;refine Xdr ?_;refine X7q ?_;clear hK K;intro w HL;refine Xds ?_;refine X72 ?_;refine Xdt ?_;refine X6 ?_;refine Xdk ?_;refine X6 ?_;refine Xdu ?_;refine X91 ?_;intro K hK;refine Xdv ?_;refine X7q ?_;clear hK K;intro w HL;refine Xdx ?_;refine X72 ?_;refine Xdy ?_;refine X6 ?_;refine Xdn ?_;refine Xdz ?_;refine X6 ?_;refine Xe0 ?_;refine Xh ?_;intro K hK;refine X96 ?_;refine Xe1 ?_
 rintro e w ⟨v1,rfl,hov,hb⟩;obtain⟨y,rfl,hyl,hyc,hym,hyr,_⟩:=xkt hov;have HY:=hZ (And.intro hyl hyr);replace HL:=HL.next hb;clear hb hov hyl hyc hym hyr;refine X79 ?_;clear hK K;intro K hK;refine xbj (xbz bt _ rfl y.A y.n y.c rfl v HY.out.2 HY.out.1) ?_;refine X3x ?_;clear hK K;refine Xe2 ?_;go_upto_region 7 with fail;refine Xdh ?_;intro CL7 hS7;replace HL:=HL.less (D':=fun k=>Old w0 k∧¬ D k) (fun k h=>h.1);refine Xdi ?_;refine X3v ?_;intro HL;refine Xdj ?_;refine X6 ?_;refine Xdk ?_;refine X6 ?_;refine Xdl ?_;refine X3g ?_;refine Xdm ?_;refine X6 ?_;refine Xdn ?_;refine X6 ?_;refine Xdo ?_;refine Xh ?_;intro K hK;refine X9m ?_;refine Xdp ?_;rintro e w ⟨D2,vs2,vf2,y,rfl,hP2,hS2⟩;have HP2:=hZ hP2;have HS2:=hZ (hS7.trans hS2)
 replace HL:=HL.frame hS2.fr (fun k hk n=>n.2 hk) (fun x hx=>by cases hx);clear hP2 hS2;refine X7e ?_;clear hK K;go_upto_region 8 with fail;refine X7v ?_;go_wp2_with fail;go_ret;have HF:=xgv HI.out HRM.out x.key l y d HP2.out;exact⟨_,D2,vs2,vf2,_,rfl,HP2.out,HS2.out,by rw[if_neg HF.2.2.2.2.2];exact HF.1,HF.2.1,HF.2.2.1,HF.2.2.2.1,by rw[HF.2.2.2.2.1];omega⟩
theorem MadeT.mono{R':List Int}{d:Nat}{t:Tre}{c c':Nat}{e:Ending}{w':World}(h:MadeT D w gs g σ R' d t c e w')(hc:c≤c'):MadeT D w gs g σ R' d t c' e w':=by
 obtain⟨z,D',vs',vf',σ',h1,h2,h3,h4,h5,h6,h7,h8⟩:=h;exact⟨z,D',vs',vf',σ',h1,h2,h3,h4,h5,h6,h7,by omega⟩
end
theorem xnv{t:Tre}{p:Ent}(h:t.has p=false):newN t [p]=1:=by simp[newN,h]
theorem xra{d:Nat}:∀ {es:List Ent},2≤es.length→¬ xgg 0 d es
 | [],h=>by simp at h
 | [_],h=>by simp at h
 | _::_::_,_=>fun h=>h
theorem xk0(N:Nat)(ih:∀ M,N=M+1→xnt M):xnt N:=by
 refine⟨fun d hd D w gs g σ vs vf R zo d0 told A n c ws ls h hI ht hti htv hW hE hR hn hroom=>?_⟩;have hlen:=hW.s.len;have hll:=hW.len;by_cases hn2:2≤n
 ·rcases N with _ | M
  ·exact absurd hE.parts (xra (by rw[xnr hll];omega))
  ·exact xq9 M (ih M rfl) d hd D w gs g σ vs vf R zo d0 told A n c _ _ h hI ht hti htv hW hE hR hn hroom hn2
 ·by_cases hn0:n=0
  ·subst hn0
   have e1:ws = []:=List.eq_nil_of_length_eq_zero hlen;subst e1;exact(xq8 D w σ vs vf R zo A c N d h hI).mono fun e w' hm=>hm.mono (by omega)
  ·have e1:n=1:=by omega
   subst e1;obtain⟨x,rfl⟩:=List.length_eq_one_iff.1 hlen;obtain⟨l,rfl⟩:=List.length_eq_one_iff.1 hll;have hes:esOf [x] [l] = [(x.key,l)]:=rfl;have hl:l.length≤1024:=hE.len (x.key,l) (by rw[hes];simp);have hfr:xak N d (esOf [x] [l])=.leaf x.key l:=by rw[hes];cases N<;>rfl
   rw[hfr];rw[hes] at hroom ⊢
   cases told with
   | inner a b=>cases hti
   | nil =>
    have hz:zo=0:=ht;subst hz;have hn1:newN .nil [(x.key,l)]=1:=xnv rfl;rw[hn1] at hroom ⊢;exact(xlk h R hI A c d x l hW hl (by omega)).mono fun e w' hm=>hm.mono (by omega)
   | leaf k v =>
    by_cases hk:k.l=x.key.l
    ·have hvn:v.length≤1024:=htv k v rfl
     by_cases hv:v=l
     ·have e2:(Tre.leaf x.key l)=.leaf k v:=by rw[D32.ext hk,hv]
      rw[e2];exact(xkz h zo d0 k v ht R hI A c d x l hW hl (by omega) hk hv hvn).mono fun e w' hm=>hm.mono (by omega)
     ·have hn1:newN (.leaf k v) [(x.key,l)]=1:=xnv (by simp[Tre.has,hv])
      rw[hn1] at hroom ⊢;exact(xlm h zo d0 k v ht R hI A c d x l hW hl (by omega) hk hv hvn).mono fun e w' hm=>hm.mono (by omega)
    ·have hn1:newN (.leaf k v) [(x.key,l)]=1:=xnv (by
      have : ¬ k=x.key:=fun e=>hk (by rw[e])
      simp[Tre.has,this])
     rw[hn1] at hroom ⊢;exact(xll h zo d0 k v ht R hI A c d x l hW hl (by omega) hk).mono fun e w' hm=>hm.mono (by omega)
theorem xis:∀ N,xnt N
 | 0=>xk0 0 fun M h=>by omega
 | N+1=>xk0 (N+1) fun M h=>by
  obtain rfl:N=M:=by omega
  exact xis N
def xbc(es:List WE):List D32:=es.map fun e=>e.1.key
theorem xdk(es:List WE):(es.map pw).map Prod.fst=xbc es:=by rw[List.map_map];rfl
structure SpB (d:Nat)(told:Tre)(es:List WE)(t:Tre):Prop where
 ok:t.Ok d
 sp:∀ k v,(k,v)∈t.ents↔((k,some v)∈es.map pw∨(k∉xbc es∧(k,v)∈told.ents))
 sz:t.size≤told.size+es.length
theorem xus{es:List WE}(h:xf5 es):(xbc es).Nodup:=by
 unfold xbc;rw[List.nodup_iff_pairwise_ne,List.pairwise_map];exact h.imp fun {a b} hlt e=>by rw[e] at hlt;exact Nat.lt_irrefl _ hlt
theorem xnw(a b:List (D32×Option LU))(k:D32):xct (a++b) k=(xct b k).or (xct a k):=by
 induction b using xek with
 | h0=>simp[xct]
 | h1 l x ih =>
  rw[← List.append_assoc,xeb,xeb,ih]
  split
  ·rfl
  ·rfl
theorem xjc{ps:List (D32×Option LU)}(h:(ps.map Prod.fst).Nodup)(k:D32)(o:Option LU):xct ps k=some o↔(k,o)∈ps:=by
 refine⟨xir ps,?_⟩
 induction ps using xek with
 | h0=>intro h;cases h
 | h1 l x ih =>
  intro hm;rw[List.map_append,List.nodup_append] at h;obtain⟨h1,_,h3⟩:=h;rw[xeb];rcases List.mem_append.1 hm with hm | hm
  ·have hne : ¬ x.1=k:=fun e=>h3 k (List.mem_map.2 ⟨_,hm,rfl⟩) x.1 (by simp) e.symm
   rw[if_neg hne];exact ih h1 hm
  ·have e:=List.mem_singleton.1 hm
   rw[← e,if_pos rfl]
def xd3(t:Tre)(v:Sv):List PE:=match t with
 | .leaf k l=>[(⟨k,v⟩,l)]
 | _=>[]
theorem xut{told:Tre}(hti:told.isIn=false)(v:Sv){es:List WE}(hr:xf5 es)(k:D32)(t:LU) :
  xct (((xd3 told v).map toW++es).map pw) k=some (some t)↔((k,some t)∈es.map pw∨(k∉xbc es∧(k,t)∈told.ents)):=by
 have hnd:((es.map pw).map Prod.fst).Nodup:=by rw[xdk];exact xus hr
 rw[List.map_append,xnw]
 cases hl:xct (es.map pw) k with
 | some o =>
  have hm:=(xjc hnd k o).1 hl;have hk:k∈xbc es:=by rw[← xdk];exact List.mem_map.2 ⟨_,hm,rfl⟩
  simp only[Option.some_or,Option.some.injEq];constructor
  ·intro e;subst e;exact .inl hm
  ·rintro(h | h)
   ·have:=(xjc hnd k (some t)).2 h
    rw[hl] at this;injection this
   ·exact absurd hk h.1
 | none =>
  have hk:k∉xbc es:=by rw[← xdk];exact(xq5 _).1 hl
  simp only[Option.none_or];have hno:(k,some t)∉es.map pw:=fun h=>hk (by rw[← xdk];exact List.mem_map.2 ⟨_,h,rfl⟩)
  cases told with
  | inner a b=>cases hti
  | nil=>simp[xd3,xct,Tre.ents,hno]
  | leaf k0 l0 =>
   simp only[xd3,qk,ql,xct,List.foldl_cons,List.foldl_nil,Tre.ents,List.mem_singleton,Prod.mk.injEq,hno,false_or,hk,not_false_eq_true,true_and];show(if k0=k then some (some l0) else none)=some (some t)↔_
   split
   ·next e=>subst e;simp[eq_comm]
   ·next e=>simp;exact fun h=>absurd h.symm e
theorem xsy{α:Type}[DecidableEq α]:∀ {l m:List α},l.Nodup→(∀ x∈l,x∈m)→l.length≤m.length
 | [],m,_,_=>by simp
 | x::l,m,h,hs=>by
  obtain⟨h1,h2⟩:=List.nodup_cons.1 h;have hx:=hs x (by simp)
  have:=xsy (l:=l) (m:=m.erase x) h2 fun y hy=>by
   have hne:y≠x:=fun e=>h1 (e▸hy)
   exact(List.mem_erase_of_ne hne).2 (hs y (by simp[hy]))
  rw[List.length_erase_of_mem hx] at this;have hp:=List.length_pos_of_mem hx;simp only[qr];omega
theorem new_le{told:Tre}(hti:told.isIn=false){es:List WE}{ens:List Ent}(hn:(ens.map Prod.fst).Nodup)(hs:∀ k v,(k,v)∈ens↔((k,some v)∈es.map pw∨(k∉xbc es∧(k,v)∈told.ents))):newN told ens≤es.length:=by
 unfold newN
 have h1:((ens.filter fun p=>!told.has p).map Prod.fst).length≤(xbc es).length:=by
  refine xsy ?_ fun k hk=>?_
  ·exact hn.sublist (List.Sublist.map _ (List.filter_sublist))
  ·obtain⟨⟨k',v⟩,hp,rfl⟩:=List.mem_map.1 hk
   obtain⟨hp1,hp2⟩:=List.mem_filter.1 hp;rcases (hs k' v).1 hp1 with h | ⟨_,h⟩
   ·rw[← xdk];exact List.mem_map.2 ⟨_,h,rfl⟩
   ·exfalso
    cases told with
    | nil=>cases h
    | inner a b=>cases hti
    | leaf k0 l0 =>
     simp only[Tre.ents,List.mem_singleton,Prod.mk.injEq] at h;simp[Tre.has,h.1,h.2] at hp2
 simpa[xbc] using h1
theorem IsT.uniq{σ:Sb}:∀ {t u:Tre} {z:Int} {d:Nat},IsT σ z d t→IsT σ z d u→t=u
 | .nil,u,z,d,h,h2=>by
  have h:z=0:=h;subst h;exact h2.zero.symm
 | .leaf k v,.nil,z,d,h,h2=>by
  have h2:z=0:=h2;subst h2;exact h.zero
 | .leaf k v,.leaf k' v',z,d,h,h2=>by
  obtain⟨i,hi,e,_,hv,_,hk,_⟩:=h;obtain⟨j,hj,e',_,hv',_,hk',_⟩:=h2;obtain rfl:i=j:=by omega
  rw[← hv,← hk,← hv',← hk']
 | .leaf k v,.inner l r,z,d,h,h2=>by
  obtain⟨i,hi,e,_,_,hk,_⟩:=h;obtain⟨j,hj,e',_,hk',_⟩:=h2;obtain rfl:i=j:=by omega
  rw[hk] at hk';cases hk'
 | .inner l r,.nil,z,d,h,h2=>by
  have h2:z=0:=h2;subst h2;exact h.zero
 | .inner l r,.leaf k v,z,d,h,h2=>by
  obtain⟨i,hi,e,_,hk,_⟩:=h;obtain⟨j,hj,e',_,_,hk',_⟩:=h2;obtain rfl:i=j:=by omega
  rw[hk] at hk';cases hk'
 | .inner l r,.inner l' r',z,d,h,h2=>by
  obtain⟨i,hi,e,_,_,_,_,_,_,hl,hr⟩:=h;obtain⟨j,hj,e',_,_,_,_,_,_,hl',hr'⟩:=h2;obtain rfl:i=j:=by omega
  rw[IsT.uniq hl hl',IsT.uniq hr hr']
def Alike(d:Nat)(ks:List D32):Prop:=∀ k∈ks,∀ k'∈ks,∀ e,e<d→tb k.l e=tb k'.l e
theorem Alike.sub{d:Nat}{ks ms:List D32}(h:Alike d ks)(hs:∀ k∈ms,k∈ks):Alike d ms:=fun k hk k' hk'=>h k (hs k hk) k' (hs k' hk')
theorem Alike.next{d:Nat}{ks:List D32}{b:Bool}(h:Alike d ks)(hb:∀ k∈ks,tb k.l d=b):Alike (d+1) ks:=fun k hk k' hk' e he=>by
 by_cases hed:e=d
 ·subst hed;rw[hb k hk,hb k' hk']
 ·exact h k hk k' hk' e (by omega)
section
variable {d:Nat}{l r t1 t2:Tre}{a b:List WE}
theorem xgw{told t:Tre}{es:List WE}{x:Bool}(h:SpB (d+1) told es t)(ht:∀ k∈told.keys,tb k.l d=x)(he:∀ k∈xbc es,tb k.l d=x):∀ k∈t.keys,tb k.l d=x:=fun k hk=>by
 obtain⟨v,hv⟩:=xcl hk;rcases (h.sp k v).1 hv with h1 | ⟨_,h1⟩
 ·exact he k (by rw[← xdk];exact List.mem_map.2 ⟨_,h1,rfl⟩)
 ·exact ht k (xbs h1)
theorem xhz{told t:Tre}{es:List WE}{d:Nat}(h:SpB d told es t):∀ k∈t.keys,k∈told.keys++xbc es:=fun k hk=>by
 obtain⟨v,hv⟩:=xcl hk;rcases (h.sp k v).1 hv with h1 | ⟨_,h1⟩
 ·exact List.mem_append.2 (.inr (by rw[← xdk];exact List.mem_map.2 ⟨_,h1,rfl⟩))
 ·exact List.mem_append.2 (.inl (xbs h1))
theorem xsz(hl:∀ k∈l.keys,tb k.l d=false)(hr:∀ k∈r.keys,tb k.l d=true)(ha:∀ k∈xbc a,tb k.l d=false)(hb:∀ k∈xbc b,tb k.l d=true)(h1:SpB (d+1) l a t1)(h2:SpB (d+1) r b t2)(k:D32)(v:LU) :
  (k,v)∈t1.ents++t2.ents↔((k,some v)∈(a++b).map pw∨(k∉xbc (a++b)∧(k,v)∈(Tre.inner l r).ents)):=by
 have hkw:xbc (a++b)=xbc a++xbc b:=by simp[xbc]
 rw[List.mem_append,h1.sp,h2.sp,hkw,List.map_append,List.mem_append,List.mem_append,not_or];show _↔_∨_∧(k,v)∈l.ents++r.ents;rw[List.mem_append];constructor
 ·rintro((h | ⟨h,h'⟩) | (h | ⟨h,h'⟩))
  ·exact .inl (.inl h)
  ·refine .inr ⟨⟨h,fun hk=>?_⟩,.inl h'⟩
   have e1:=hl k (xbs h');rw[hb k hk] at e1;cases e1
  ·exact .inl (.inr h)
  ·refine .inr ⟨⟨fun hk=>?_,h⟩,.inr h'⟩
   have e1:=hr k (xbs h');rw[ha k hk] at e1;cases e1
 ·rintro((h | h) | ⟨⟨h,h'⟩,h3 | h3⟩)
  ·exact .inl (.inl h)
  ·exact .inr (.inl h)
  ·exact .inl (.inr ⟨h,h3⟩)
  ·exact .inr (.inr ⟨h',h3⟩)
theorem xjw(hd:d<256)(hal:Alike d ((Tre.inner l r).keys++xbc (a++b)))(hl:∀ k∈l.keys,tb k.l d=false)(hr:∀ k∈r.keys,tb k.l d=true)(ha:∀ k∈xbc a,tb k.l d=false)(hb:∀ k∈xbc b,tb k.l d=true)(h1:SpB (d+1) l a t1)(h2:SpB (d+1) r b t2) :
  SpB d (.inner l r) (a++b) (xb1 t1 t2):=by
 have hkw:xbc (a++b)=xbc a++xbc b:=by simp[xbc]
 refine⟨xsw hd h1.ok h2.ok (xgw h1 hl ha) (xgw h2 hr hb) fun k hk k' hk'=>?_,fun k v=>?_,?_⟩
 ·have hm:∀ k∈t1.keys++t2.keys,k∈(Tre.inner l r).keys++xbc (a++b):=fun k hk=>by
   rw[hkw];show k∈(l.keys++r.keys)++_;rcases List.mem_append.1 hk with hk | hk
   ·rcases List.mem_append.1 (xhz h1 k hk) with h | h<;>simp[h]
   ·rcases List.mem_append.1 (xhz h2 k hk) with h | h<;>simp[h]
  exact hal k (hm k hk) k' (hm k' hk')
 ·rw[xmf h1.ok h2.ok]
  exact xsz hl hr ha hb h1 h2 k v
 ·have q:=xme t1 t2
  have q1:=h1.sz;have q2:=h2.sz;show(xb1 t1 t2).size≤l.size+r.size+(a++b).length;rw[List.length_append];omega
theorem xjx(hok:(Tre.inner l r).Ok d)(hl:∀ k∈l.keys,tb k.l d=false)(hr:∀ k∈r.keys,tb k.l d=true)(ha:∀ k∈xbc a,tb k.l d=false)(hb:∀ k∈xbc b,tb k.l d=true)(h1:SpB (d+1) l a l)(h2:SpB (d+1) r b r) :
  SpB d (.inner l r) (a++b) (.inner l r):=⟨hok,fun k v=>xsz hl hr ha hb h1 h2 k v,by omega⟩
end
theorem xnx{d:Nat}{t:Tre}(h:t.Ok d):SpB d t [] t:=⟨h,fun k v=>by simp[xbc],by simp⟩
theorem xuu{d:Nat}(hd:d<256){es:List WE}(hr:xf5 es)(hal:Alike d (xbc es)):(∀ k∈xbc (es.take (xbv d (es.map Prod.fst))),tb k.l d=false)∧(∀ k∈xbc (es.drop (xbv d (es.map Prod.fst))),tb k.l d=true):=by
 have hz:xbv d (es.map Prod.fst)=(es.takeWhile fun e=>!tb e.1.key.l d).length:=by
  unfold xbv;rw[List.takeWhile_map,List.length_map];rfl
 have e1:es.take (xbv d (es.map Prod.fst))=es.takeWhile fun e=>!tb e.1.key.l d:=by
  rw[hz];have h9:∀ A B:List WE,A++B=es→es.take A.length=A:=by rintro A B rfl;exact List.take_left' rfl
  exact h9 _ _ List.takeWhile_append_dropWhile
 have e2:es.drop (xbv d (es.map Prod.fst))=es.dropWhile fun e=>!tb e.1.key.l d:=by
  rw[hz];have h9:∀ A B:List WE,A++B=es→es.drop A.length=B:=by rintro A B rfl;exact List.drop_left' rfl
  exact h9 _ _ List.takeWhile_append_dropWhile
 rw[e1,e2];refine⟨fun k hk=>?_,?_⟩
 ·obtain⟨e,he,rfl⟩:=List.mem_map.1 hk
  have:=List.all_eq_true.1 (List.all_takeWhile (p:=fun e:WE=>!tb e.1.key.l d) (l:=es)) e he;simpa using this
 ·clear hz e1 e2
  induction es with
  | nil=>intro k hk;cases hk
  | cons x es ih =>
   intro k hk;obtain⟨h1,h2⟩:=List.pairwise_cons.1 hr
   cases hb:tb x.1.key.l d with
   | false =>
    rw[List.dropWhile_cons,hb] at hk;exact ih h2 (hal.sub fun k hk=>by simp[xbc] at hk ⊢;exact .inr hk) k (by simpa using hk)
   | true =>
    rw[List.dropWhile_cons,hb] at hk;have hk:k∈xbc (x::es):=by simpa using hk
    obtain⟨e,he,rfl⟩:=List.mem_map.1 hk;rcases List.mem_cons.1 he with rfl | he
    ·exact hb
    ·exact xph x.1.key.h e.1.key.h d hd (hal x.1.key (by simp[xbc]) e.1.key (List.mem_map.2 ⟨e,List.mem_cons_of_mem _ he,rfl⟩)) (h1 e he) hb
def xit(D:Nat→Prop)(w:World)(gs g:Nat)(σ:Sb)(R:List Int)(d:Nat)(told:Tre)(es:List WE)(c:Nat)(e:Ending)(w':World):Prop :=
 ∃ (t:Tre)(z:Int)(D':Nat→Prop)(vs' vf':Sv)(σ':Sb),e=.returned (iV z)∧StP D' w' gs g σ' vs' vf'∧Stp D w D' w'∧σ'.Inv (if z=0 then R else z::R) []∧σ.Keeps R σ'∧IsT σ' z d t∧σ'.room=σ.room∧σ'.used≤σ.used+c∧SpB d told es t
structure xny (N:Nat):Prop where
 run:∀ (d:Nat) (hd:d+N=256) (D:Nat→Prop) (w:World) (gs g:Nat) (σ:Sb) (vs vf:Sv)(R:List Int)(zo:Int)(told:Tre)(A:Option Addr)(n c:Nat)(es:List WE),
 StP D w gs g σ vs vf→σ.Inv R []→IsT σ zo d told→(zo=0∨σ.Live R zo)→told.Ok d→WriT D w A n c (es.map Prod.fst) (es.map Prod.snd)→xf5 es→Alike d (told.keys++xbc es)→(∀ e∈es,e.1.gone=false→e.2.length≤1024)→R.length+N≤500000000→n≤11→told.size≤500000→σ.used+(N+1)*n≤σ.room →
 Calls prog 186 #[pG gs,iV zo,iV d,.slice A n c] w (xit D w gs g σ R d told es ((N+1)*n))
theorem xpp(qs:List PE):esOf ((qs.map toW).map Prod.fst) ((qs.map toW).map Prod.snd)=qs.map entP:=by
 unfold esOf
 induction qs with
 | nil=>rfl
 | cons q qs ih=>simp only[qk,List.zip_cons_cons,ih];rfl
theorem xpq{mv:Sv}{x:Value}(hx:x=mv.v)(ps:List PE){w:World}(hp:PrT w mv ps)(A:Option Addr)(n c:Nat)(es:List WE)(h:WriT (fun _=>False) w A n c (es.map Prod.fst) (es.map Prod.snd))(hn:ps.length+n≤12)(hbg:∀ e∈ps.map toW++es,e.1.gone=false→e.2.length≤1048576) :
  Calls prog 225 #[x,.slice A n c] w (OvO w (ps.map toW++es)):=by rw[hx];exact xjb w mv ps hp A n c es h hn hbg
theorem xrb(N:Nat)(d:Nat)(hd:d+N=256)(D:Nat→Prop)(w:World)(gs g:Nat)(σ:Sb)(vs vf:Sv)(R:List Int)(zo:Int)(told:Tre)(A:Option Addr)(c:Nat)(h:StP D w gs g σ vs vf)(hI:σ.Inv R [])(ht:IsT σ zo d told)(hok:told.Ok d)(hRl:R.length+N≤500000000) :
  Calls prog 186 #[pG gs,iV zo,iV d,.slice A 0 c] w (xit D w gs g σ R d told [] 0):=by
 have kn:(((0:Nat):Int)==0)=true:=rfl;refine Xcz ?_;intro HH HI HT;have HOK:=hZ hok;have HRL:=hZ hRl;clear h hI ht hok hRl;obtain⟨w0,rfl,HL⟩:=lS w;go_enter func186,ntmps186;go_upto_region 0 with fail;refine X1j ?_;go_upto_region 1 with fail;refine Xbv ?_;refine X6 ?_;refine Xe4 ?_;refine X1z ?_;go_upto_region 2 with fail;refine X2j ?_;intro K hK;refine Xe3 ?_;refine X1w ?_;(with_reducible refine(xgt (HH.out.below HL.below) R HI.out zo d told HT.out (by have:=HRL.out;omega)).mono ?_);rintro e w ⟨z3,D3,vs3,vf3,σ3,rfl,hP3,hS3,hI3,hY3,hT3,hr3,hu3⟩;refine X2m ?_;clear hK K;go_wp2_with fail;go_ret;exact⟨told,z3,D3,vs3,vf3,σ3,rfl,hP3,(Stp.of_below HL.below).trans hS3,hI3,hY3.keeps HI.out,hT3,hr3,hu3,xnx HOK.out⟩
theorem xuv(N:Nat)(d:Nat)(hd:d+N=256)(D:Nat→Prop)(w:World)(gs g:Nat)(σ:Sb)(vs vf:Sv)(R:List Int)(zo:Int)(A:Option Addr)(n c:Nat)(es:List WE)
  (h:StP D w gs g σ vs vf) (hI:σ.Inv R []) (ht:IsT σ zo d Tre.nil) (hlv:zo=0∨σ.Live R zo) (hok:Tre.nil.Ok d) (hW:WriT D w A n c (es.map Prod.fst) (es.map Prod.snd)) (hR:xf5 es) (hal:Alike d (Tre.nil.keys++xbc es)) (hv:∀ e∈es,e.1.gone=false→e.2.length≤1024) (hRl:R.length+N≤500000000) (hn:n≤11) (hts:Tre.nil.size≤500000) (hroom:σ.used+(N+1)*n≤σ.room) (hn1:1≤n):Calls prog 186 #[pG gs,iV zo,iV d,.slice A n c] w (xit D w gs g σ R d (.nil) es ((N+1)*n)):=by
 obtain⟨told,htold⟩:∃ t:Tre,t=.nil:=⟨_,rfl⟩;have hzo:zo=0:=ht
 have HBG:Hid (∀ y:Sv,∀ e∈(xd3 told y).map toW++es,e.1.gone=false→e.2.length≤1048576):=hZ (fun y e he hg=>by
  rw[htold] at he;rcases List.mem_append.1 he with he | he
  ·cases he
  ·exact Nat.le_trans (hv e he hg) (by decide))
 have G0:Hid (Got σ zo Nd.z [] false):=hZ (.inr ⟨rfl,by omega,rfl,rfl⟩);have k3:((Nd.z.kind:Int)==2)=false:=rfl;have k5:((Nd.z.kind:Int)==1)=false:=rfl;have hel:es.length=n:=by have:=hW.s.len;simpa using this
 have kn:((n:Int)==0)=false:=nB (by omega);refine Xcz ?_;intro HH HI HT;have HOK:=hZ hok;have HW:=hZ hW;have HRI:=hZ hR;have HAL:=hZ hal;have HVL:=hZ hv;have HRL:=hZ hRl;have HRM:=hZ hroom;have HEL:=hZ hel;have hti:told.isIn=false:=by rw[htold];rfl
 have HLN:∀ y:Sv,Hid ((xd3 told y).length+n≤12):=fun y=>hZ (by rw[htold];show 0+n≤12;omega)
 have HPW:∀ W:World,Hid (PrT W Sv.nil (xd3 told Sv.nil)):=fun W=>hZ (by
  rw[htold]
  exact⟨Rd.nil _ _,rfl,Nat.le_refl _,fun p hp=>by cases hp⟩)
 rw[← htold] at *;clear h hI ht hlv hok hW hR hal hv hRl hts hroom hel hzo;obtain⟨w0,rfl,HL⟩:=lS w;go_enter func186,ntmps186;go_upto_region 0 with fail;refine X1j ?_;go_upto_region 1 with fail;refine Xbv ?_;refine X6 ?_;refine Xe5 ?_;refine X1z ?_;go_upto_region 3 with fail;refine X7x ?_;intro K hK;refine Xdg ?_;refine X4y ?_;clear hK K;intro w HL;refine Xe6 ?_;go_upto_region 4 with fail;refine X1j ?_;go_upto_region 5 with fail;refine X7x ?_;intro K hK;refine Xdg ?_;refine X4y ?_;clear hK K;intro w HL;refine xaa rfl _ (xao (b:=false) _ _ rfl _ _ rfl rfl k5) ?_;refine X1z ?_;have HB:=hZ HL.below;clear HL;have HL:=Loc.start w;obtain⟨w1,rfl⟩:=eW w;obtain⟨y,hy⟩:∃ y:Sv,y=Sv.nil:=⟨_,rfl⟩;have HPR:=HPW w1;rw[← hy] at HPR;replace HBG:=hZ (HBG.out y);have HLN:=HLN y;clear HPW
 obtain⟨mv,hmv⟩:∃ mv:Sv,mv=Sv.nil:=⟨_,rfl⟩;have hmvv:Hid (Value.slice none 0 0=mv.v):=hZ (by rw[hmv];rfl);have HPR:Hid (PrT w1 mv (xd3 told y)):=by rw[hmv,← hy];exact HPR
 clear hy hmv;go_upto_region 7 with fail;refine X1j ?_;go_upto_region 8 with fail;refine X2j ?_;intro K hK;refine xad cf225 rfl _ rfl ?_;refine X1w ?_;(with_reducible refine(xpq hmvv.out (xd3 told y) (HPR.out.below HL.below) A n c es ((HW.out.step (Stp.of_below (D:=D) (HB.out.trans (HL.below.mono HB.out.size)))).free) HLN.out HBG.out).mono ?_);rintro e w ⟨v8,qs,rfl,hO⟩;refine Xe7 ?_;intro HB2 HFA;have HPQ:=hZ hO.pr;have HRQ:=hZ hO.rise;refine Xe8 ?_;intro HSQ;have HQL:Hid (qs.length≤(xd3 told y).length+n∧v8.n=qs.length):=hZ ⟨by have h1:=hO.len;rw[List.length_append,List.length_map,HEL.out] at h1;exact h1,hO.pr.len.symm⟩;clear hO HL HPR HB;refine X5k ?_;clear hK K;refine Xe9 ?_;have HL:=Loc.start w;obtain⟨w2,rfl⟩:=eW w;have hqn:qs.length≤12:=by have h1:=HQL.out.1;have h2:=HLN.out;omega
 go_wp2_with fail
 go_loopw [10,48] (fun v z wr=>∃ (i:Nat)(G:BL)(sv:Sv),i≤qs.length∧v=sv.v∧z=.int .i64 (i:Int)∧Gw 222 34 G sv i (((qs.take i).map fun p=>(toW p).1).flatMap Wrt.cells)∧Loc w2 (Old w2) (G++[]) wr) (fun _ z _=>(qs.length - intOf z).toNat)
 case atStart=>exact⟨0,[],Sv.nil,Nat.zero_le _,rfl,rfl,Gw.nil 222 34,HL⟩
 case round=>as_aux_lemma =>
  clear HL;obtain⟨i,G,sv,hi,rfl,rfl,hG,HL⟩:=hrel;obtain⟨w,rfl⟩:=eW wr;by_cases hlt:i<qs.length
  ·have k4:decide ((i:Int)<(qs.length:Int))=true:=by simp;omega
   refine Xb1 ?_;intro HI1;obtain⟨ad,hA,hrd0⟩:=HPQ.out.at_ i hlt;have HSV:Hid (v8.v=.slice (some ad) v8.n v8.c):=hZ (by unfold Sv.v;rw[hA]);refine Xea ?_;intro HRD;have HTK:Hid (((qs.take (i+1)).map fun p=>(toW p).1)=((qs.take i).map fun p=>(toW p).1)++[(toW qs[i]).1]):=hZ (by rw[List.take_succ_eq_append_getElem hlt,List.map_append];rfl);have hin:i<v8.n:=by rw[HQL.out.2];exact hlt
   clear hA hrd0;obtain⟨⟨x,lx⟩,hx⟩:∃ x,qs[i]=x:=⟨_,rfl⟩;rw[hx] at HRD HTK;clear hx;go_upto_region 9 with fail;refine Xc1 ?_;go_upto_region 10 with fail;refine Xeb ?_;refine X6 ?_;refine Xcp ?_;refine X6 ?_;refine xah zr61 rfl rfl HL ?_;clear HL;intro g12 w HL;refine X6 ?_;refine Xcq ?_;refine X34 ?_;clear HL;intro w HL;go_upto_region 11 with fail;refine X12 ?_;refine Xcr ?_;refine X6 ?_;refine Xcs ?_;refine X6 ?_;refine Xct ?_;refine X6 ?_;refine Xcu ?_;refine X6 ?_;refine Xcv ?_;refine X6 ?_;refine xb2 xcq xfn (by decide) rfl _ rfl HL _ rfl (Wrt.len _) ?_;clear HL;intro g58 w HL;refine X50 ?_;intro K hK
   refine xan xcq xfn _ _ rfl [_,_] i sv _ hG HL rfl ⟨g58,0,none⟩ 1 1 (⟨x.key,false,x.val⟩:Wrt).cells rfl (Rd.of_blk0 (es:=[]) (by rw[List.append_nil];exact HL.blk (.head _))) (Wrt.len _) (Wrt.one _) (by decide) (by omega) (by omega) ?_;clear HL;intro sv' G' w hG' HL;refine Xcw ?_;clear hK K;intro HLd;have HG':=hZ hG';clear HL hG hG';have HL:=HLd;clear HLd;go_upto_region 12 with fail;refine Xt ?_;refine Xb6 ?_;refine X1e ?_;go_wp2_with fail;go_roundw
   case rel=>exact⟨i+1,G',sv',by omega,rfl,rfl,by rw[HTK.out,List.flatMap_append];simpa[toW] using HG'.out,HL⟩
   case measure=>simp[intOf]<;>omega
  ·have k4:decide ((i:Int)<(qs.length:Int))=false:=by simp;omega
   have hin:i=qs.length:=by omega
   subst hin;rw[List.take_length] at hG;clear hlt;have HG:=hZ hG;clear hG;go_upto_region 9 with fail;refine Xc1 ?_;have HBW:=hZ (HB2.out.trans (HL.below.mono HB2.out.size))
   have HWF:Hid (WriT D w sv.A sv.n sv.c ((qs.map toW).map Prod.fst) ((qs.map toW).map Prod.snd)):=hZ (by
    have hmm:((qs.map toW).map Prod.fst)=qs.map fun p=>(toW p).1:=by rw[List.map_map];rfl
    refine⟨⟨by rw[hmm];exact HG.out.rd (L0:=[]) HL,by rw[hmm,List.length_map];exact HG.out.len.symm,HG.out.cap.1⟩,by simp,fun j hj=>?_,fun hne ad e hk=>?_,fun j hj hne ad e hk=>?_⟩
    ·have hj2:j<qs.length:=by simpa using hj
     have h1:=(HPQ.out.tx _ (List.getElem_mem hj2)).below HL.below;simpa[List.getD_eq_getElem?_getD,List.getElem?_map,List.getElem?_eq_getElem hj2,toW] using h1
    ·have h1:=HG.out.fars (N:=w2.heap.size) (fun x hx=>Nat.le_of_not_lt fun hlt=>(HL.own x (by simp[hx])).1 hlt) ad e
     have h2:=HH.out.sb.lt _ hk;have h3:=HB2.out.size;omega
    ·have hj2:j<qs.length:=by simpa using hj
     have h1:=HFA.out _ (List.getElem_mem hj2) ad (by simpa[toW] using e);have h2:=HH.out.sb.lt _ hk
     omega)
   have hes:=xpp qs
   have hris:Rise (qs.map entP):=by
    unfold Rise;rw[List.pairwise_map];exact HRQ.out
   have hkin:∀ p∈qs.map entP,p.1∈told.keys++xbc es:=fun p hp=>by
    rcases (HSQ.out p.1 p.2).1 hp with h1 | ⟨_,h1⟩
    ·exact List.mem_append.2 (.inr (by rw[← xdk];exact List.mem_map.2 ⟨_,h1,rfl⟩))
    ·exact List.mem_append.2 (.inl (xbs h1))
   refine Xec ?_;intro hshare
   have hlen:∀ p∈qs.map entP,p.2.length≤1024:=fun p hp=>by
    rcases (HSQ.out p.1 p.2).1 hp with h1 | ⟨_,h1⟩
    ·obtain⟨e,he,h2⟩:=List.mem_map.1 h1
     unfold pw at h2;injection h2 with _ h3
     split at h3
     ·cases h3
     ·next hg =>
      injection h3 with h3;rw[← h3];exact HVL.out e he (by simpa using hg)
    ·exact xhx HOK.out _ h1
   have hparts:=xcv N d _ hd hris hshare
   have HFE:Hid (FrE N d ((qs.map toW).map Prod.fst) ((qs.map toW).map Prod.snd)):=hZ (by
    refine⟨by rw[hes];exact hparts,by rw[hes];exact hlen,by rw[hes];exact hshare,?_⟩;have h1:=xe3 hris;rw[List.map_map] at h1 ⊢;rw[List.map_map]
    exact h1)
   have hnew:newN told (esOf ((qs.map toW).map Prod.fst) ((qs.map toW).map Prod.snd))≤n:=by
    rw[hes,← HEL.out];exact new_le hti (xe3 hris) HSQ.out
   have HNW:=hZ (And.intro hnew (Nat.mul_le_mul_left (N+1) hnew))
   have HTF:Hid (SpB d told es (xak N d (esOf ((qs.map toW).map Prod.fst) ((qs.map toW).map Prod.snd)))):=hZ (by
    rw[hes];refine⟨xdj N d _ hd hparts hlen hshare,fun k v=>?_,?_⟩
    ·rw[xc7 N d _ hd hparts hlen hshare]
     exact HSQ.out k v
    ·refine Nat.le_trans (xc6 N d _).2 ?_
     rw[List.length_map,HEL.out];refine Nat.le_trans HQL.out.1 (Nat.add_le_add_right ?_ n)
     cases told with
     | nil=>simp[xd3]
     | leaf k v=>simp[xd3,Tre.size]
     | inner a b=>cases hti)
   have CF:Hid (Calls prog 226 #[pG gs,iV zo,iV d,sv.v] w (MadeT D w gs g σ R d (xak N d (esOf ((qs.map toW).map Prod.fst) ((qs.map toW).map Prod.snd))) ((N+1)*newN told (esOf ((qs.map toW).map Prod.fst) ((qs.map toW).map Prod.snd))))) :=
    hZ ((xis N).run d hd D w gs g σ vs vf R zo d told sv.A sv.n sv.c _ _ (HH.out.below HBW.out) HI.out HT.out hti (fun k v e=>by have h1:=HOK.out;rw[e] at h1;exact h1.1) HWF.out HFE.out HRL.out (by have h1:=HG.out.len;omega) (by have h1:=HNW.out.2;have h2:=HRM.out;omega))
   clear hes hris hkin hshare hlen hparts hnew HWF HFE HL;go_upto_region 13 with fail;refine X9a ?_;intro K hK;refine Xd7 ?_;(with_reducible refine(CF.out).mono ?_);rintro e w ⟨z1,D2,vs2,vf2,σ2,rfl,hP2,hS2,hI2,hY2,hT2,hr2,hu2⟩;have HP2:=hZ hP2;have HS2:=hZ ((Stp.of_below HBW.out).trans hS2);have HI2:=hZ hI2;have HY2:=hZ hY2;have HT2:=hZ hT2;have HU2:=hZ (And.intro hr2 hu2);clear hP2 hS2 hI2 hY2 hT2 hr2 hu2;refine X2m ?_;clear hK K;go_wp2_with fail;go_ret;exact⟨_,z1,D2,vs2,vf2,σ2,rfl,HP2.out,HS2.out,HI2.out,HY2.out.keeps HI.out,HT2.out,HU2.out.1,by have h1:=HU2.out.2;have h2:=HNW.out.2;omega,HTF.out⟩
theorem xrc(N:Nat)(d:Nat)(hd:d+N=256)(D:Nat→Prop)(w:World)(gs g:Nat)(σ:Sb)(vs vf:Sv)(R:List Int)(zo:Int)(k:D32)(v:LU)(A:Option Addr)(n c:Nat)(es:List WE)
  (h:StP D w gs g σ vs vf) (hI:σ.Inv R []) (ht:IsT σ zo d (Tre.leaf k v)) (hlv:zo=0∨σ.Live R zo) (hok:(Tre.leaf k v).Ok d) (hW:WriT D w A n c (es.map Prod.fst) (es.map Prod.snd)) (hR:xf5 es) (hal:Alike d ((Tre.leaf k v).keys++xbc es)) (hv:∀ e∈es,e.1.gone=false→e.2.length≤1024) (hRl:R.length+N≤500000000) (hn:n≤11) (hts:(Tre.leaf k v).size≤500000) (hroom:σ.used+(N+1)*n≤σ.room) (hn1:1≤n):Calls prog 186 #[pG gs,iV zo,iV d,.slice A n c] w (xit D w gs g σ R d (.leaf k v) es ((N+1)*n)):=by
 obtain⟨told,htold⟩:∃ t:Tre,t=.leaf k v:=⟨_,rfl⟩;obtain⟨i,hi,hzi,hci,hvi,hki,hkk,_⟩:=ht;obtain⟨nd,hnd⟩:∃ nd,σ.slots[i].nd=nd:=⟨_,rfl⟩;have ht:IsT σ zo d (.leaf k v):=⟨i,hi,hzi,hci,hvi,hki,hkk,‹_›⟩;rw[hnd] at hki hkk;refine Xdq ?_;intro G0;have k3:((nd.kind:Int)==2)=false:=by rw[hki];rfl
 have k5:((nd.kind:Int)==1)=true:=by rw[hki];rfl
 have HKK:=hZ hkk;have HVN:Hid (v.length≤1024):=hZ hok.1
 have HBG:Hid (∀ y:Sv,∀ e∈(xd3 told y).map toW++es,e.1.gone=false→e.2.length≤1048576):=hZ (fun y e he hg=>by
  rw[htold] at he;rcases List.mem_append.1 he with he | he
  ·have e1:=List.mem_singleton.1 he
   rw[e1];exact Nat.le_trans hok.1 (by decide)
  ·exact Nat.le_trans (hv e he hg) (by decide))
 have hel:es.length=n:=by have:=hW.s.len;simpa using this
 have kn:((n:Int)==0)=false:=nB (by omega);refine Xcz ?_;intro HH HI HT;have HOK:=hZ hok;have HW:=hZ hW;have HRI:=hZ hR;have HAL:=hZ hal;have HVL:=hZ hv;have HRL:=hZ hRl;have HRM:=hZ hroom;have HEL:=hZ hel;have hti:told.isIn=false:=by rw[htold];rfl
 have HLN:∀ y:Sv,Hid ((xd3 told y).length+n≤12):=fun y=>hZ (by rw[htold];show 1+n≤12;omega)
 have HPW:∀ (y mv:Sv)(W:World),Rd W mv.A (⟨k,y⟩:Par).cells→mv.n=1→mv.n≤mv.c→Tx W y.A y.n y.c v→Hid (PrT W mv (xd3 told y)):=fun y mv W h1 h2 h3 h4=>hZ (by
  rw[htold];refine⟨by simpa[xd3] using h1,h2.symm,h3,fun p hp=>?_⟩
  rw[List.mem_singleton.1 hp];exact h4)
 rw[← htold] at *;clear h hI ht hlv hok hW hR hal hv hRl hts hroom hel hzi hci hvi hki hkk hnd;obtain⟨w0,rfl,HL⟩:=lS w;go_enter func186,ntmps186;go_upto_region 0 with fail;refine X1j ?_;go_upto_region 1 with fail;refine Xbv ?_;refine X6 ?_;refine Xe5 ?_;refine X1z ?_;go_upto_region 3 with fail;refine X7x ?_;intro K hK;refine Xdr ?_;refine X4y ?_;clear hK K;intro w HL;refine Xe6 ?_;go_upto_region 4 with fail;refine X1j ?_;go_upto_region 5 with fail;refine X7x ?_;intro K hK;refine Xdr ?_;refine X4y ?_;clear hK K;intro w HL;refine xaa rfl _ (xao (b:=true) _ _ rfl _ _ rfl rfl k5) ?_;refine X1z ?_;go_upto_region 6 with fail;refine Xed ?_;intro K hK;refine X90 ?_;refine Xdv ?_;refine X44 ?_;intro w HL;rw[HKK.out];refine X1y ?_;clear hK K;refine Xee ?_;intro K hK;refine X96 ?_;refine Xe1 ?_;rintro e w ⟨v1,rfl,hov,hb⟩
 obtain⟨y,rfl,hyl,hyc,hym,hyr,hyf⟩:=xkt hov;have HY:Hid (Tx w y.A y.n y.c v):=hZ ⟨hyl,hyc,hym,hyr,fun _ _ h=>h⟩;have HB0:=hZ (HL.below.trans (hb.mono HL.fr.size));clear HL hb hov hyl hyc hym hyr hyf;have HL:=Loc.start w;obtain⟨w1,rfl⟩:=eW w;refine X5k ?_;clear hK K;refine xaa rfl _ (xbp bs61 _ rfl _ (by exact xnj k y)) ?_;refine X6 ?_;refine xb2 sl55 el61 (by decide) rfl _ rfl HL _ rfl (Par.len _) ?_;clear HL;intro g42 w HL;refine X50 ?_;intro K hK;refine xan sl55 el61 _ _ rfl [_] 0 Sv.nil [] (Gw.nil 61 33) (L1:=[]) HL rfl ⟨g42,0,none⟩ 1 1 (⟨k,y⟩:Par).cells rfl (Rd.of_blk0 (es:=[]) (by rw[List.append_nil];exact HL.blk (.head _))) (Par.len _) (Par.one _) (by decide) (by omega) (by omega) ?_;clear HL;intro mv G6 w hG6 HL;rw[List.nil_append] at hG6
 have HPR:=HPW y mv w (hG6.rdm (fun x hx=>by simp[hx]) HL) hG6.len hG6.cap.1 (HY.out.below HL.below);have HB:=hZ (HB0.out.trans (HL.below.mono HB0.out.size));refine hK _ _ ?_;clear hK K;clear hG6 HL HB0 HY;have HL:=Loc.start w;obtain⟨w1,rfl⟩:=eW w;refine X10 ?_;replace HBG:=hZ (HBG.out y);have HLN:=HLN y;clear HPW;go_upto_region 7 with fail;refine X1j ?_;go_upto_region 8 with fail;refine X2j ?_;intro K hK;refine xad cf225 rfl _ rfl ?_;refine X1w ?_;(with_reducible refine(xjb _ mv (xd3 told y) (HPR.out.below HL.below) A n c es ((HW.out.step (Stp.of_below (D:=D) (HB.out.trans (HL.below.mono HB.out.size)))).free) HLN.out HBG.out).mono ?_);rintro e w ⟨v8,qs,rfl,hO⟩;refine Xe7 ?_;intro HB2 HFA;have HPQ:=hZ hO.pr;have HRQ:=hZ hO.rise;refine Xe8 ?_;intro HSQ
 have HQL:Hid (qs.length≤(xd3 told y).length+n∧v8.n=qs.length):=hZ ⟨by have h1:=hO.len;rw[List.length_append,List.length_map,HEL.out] at h1;exact h1,hO.pr.len.symm⟩;clear hO HL HPR HB;refine X5k ?_;clear hK K;refine Xe9 ?_;have HL:=Loc.start w;obtain⟨w2,rfl⟩:=eW w;have hqn:qs.length≤12:=by have h1:=HQL.out.1;have h2:=HLN.out;omega
 go_wp2_with fail
 go_loopw [10,48] (fun v z wr=>∃ (i:Nat)(G:BL)(sv:Sv),i≤qs.length∧v=sv.v∧z=.int .i64 (i:Int)∧Gw 222 34 G sv i (((qs.take i).map fun p=>(toW p).1).flatMap Wrt.cells)∧Loc w2 (Old w2) (G++[]) wr) (fun _ z _=>(qs.length - intOf z).toNat)
 case atStart=>exact⟨0,[],Sv.nil,Nat.zero_le _,rfl,rfl,Gw.nil 222 34,HL⟩
 case round=>as_aux_lemma =>
  clear HL;obtain⟨i,G,sv,hi,rfl,rfl,hG,HL⟩:=hrel;obtain⟨w,rfl⟩:=eW wr;by_cases hlt:i<qs.length
  ·have k4:decide ((i:Int)<(qs.length:Int))=true:=by simp;omega
   refine Xb1 ?_;intro HI1;obtain⟨ad,hA,hrd0⟩:=HPQ.out.at_ i hlt;have HSV:Hid (v8.v=.slice (some ad) v8.n v8.c):=hZ (by unfold Sv.v;rw[hA]);refine Xea ?_;intro HRD;have HTK:Hid (((qs.take (i+1)).map fun p=>(toW p).1)=((qs.take i).map fun p=>(toW p).1)++[(toW qs[i]).1]):=hZ (by rw[List.take_succ_eq_append_getElem hlt,List.map_append];rfl);have hin:i<v8.n:=by rw[HQL.out.2];exact hlt
   clear hA hrd0;obtain⟨⟨x,lx⟩,hx⟩:∃ x,qs[i]=x:=⟨_,rfl⟩;rw[hx] at HRD HTK;clear hx;go_upto_region 9 with fail;refine Xc1 ?_;go_upto_region 10 with fail;refine Xeb ?_;refine X6 ?_;refine Xcp ?_;refine X6 ?_;refine xah zr61 rfl rfl HL ?_;clear HL;intro g12 w HL;refine X6 ?_;refine Xcq ?_;refine X34 ?_;clear HL;intro w HL;go_upto_region 11 with fail;refine X12 ?_;refine Xcr ?_;refine X6 ?_;refine Xcs ?_;refine X6 ?_;refine Xct ?_;refine X6 ?_;refine Xcu ?_;refine X6 ?_;refine Xcv ?_;refine X6 ?_;refine xb2 xcq xfn (by decide) rfl _ rfl HL _ rfl (Wrt.len _) ?_;clear HL;intro g58 w HL;refine X50 ?_;intro K hK
   refine xan xcq xfn _ _ rfl [_,_] i sv _ hG HL rfl ⟨g58,0,none⟩ 1 1 (⟨x.key,false,x.val⟩:Wrt).cells rfl (Rd.of_blk0 (es:=[]) (by rw[List.append_nil];exact HL.blk (.head _))) (Wrt.len _) (Wrt.one _) (by decide) (by omega) (by omega) ?_;clear HL;intro sv' G' w hG' HL;refine Xcw ?_;clear hK K;intro HLd;have HG':=hZ hG';clear HL hG hG';have HL:=HLd;clear HLd;go_upto_region 12 with fail;refine Xt ?_;refine Xb6 ?_;refine X1e ?_;go_wp2_with fail;go_roundw
   case rel=>exact⟨i+1,G',sv',by omega,rfl,rfl,by rw[HTK.out,List.flatMap_append];simpa[toW] using HG'.out,HL⟩
   case measure=>simp[intOf]<;>omega
  ·have k4:decide ((i:Int)<(qs.length:Int))=false:=by simp;omega
   have hin:i=qs.length:=by omega
   subst hin;rw[List.take_length] at hG;clear hlt;have HG:=hZ hG;clear hG;go_upto_region 9 with fail;refine Xc1 ?_;have HBW:=hZ (HB2.out.trans (HL.below.mono HB2.out.size))
   have HWF:Hid (WriT D w sv.A sv.n sv.c ((qs.map toW).map Prod.fst) ((qs.map toW).map Prod.snd)):=hZ (by
    have hmm:((qs.map toW).map Prod.fst)=qs.map fun p=>(toW p).1:=by rw[List.map_map];rfl
    refine⟨⟨by rw[hmm];exact HG.out.rd (L0:=[]) HL,by rw[hmm,List.length_map];exact HG.out.len.symm,HG.out.cap.1⟩,by simp,fun j hj=>?_,fun hne ad e hk=>?_,fun j hj hne ad e hk=>?_⟩
    ·have hj2:j<qs.length:=by simpa using hj
     have h1:=(HPQ.out.tx _ (List.getElem_mem hj2)).below HL.below;simpa[List.getD_eq_getElem?_getD,List.getElem?_map,List.getElem?_eq_getElem hj2,toW] using h1
    ·have h1:=HG.out.fars (N:=w2.heap.size) (fun x hx=>Nat.le_of_not_lt fun hlt=>(HL.own x (by simp[hx])).1 hlt) ad e
     have h2:=HH.out.sb.lt _ hk;have h3:=HB2.out.size;omega
    ·have hj2:j<qs.length:=by simpa using hj
     have h1:=HFA.out _ (List.getElem_mem hj2) ad (by simpa[toW] using e);have h2:=HH.out.sb.lt _ hk
     omega)
   have hes:=xpp qs
   have hris:Rise (qs.map entP):=by
    unfold Rise;rw[List.pairwise_map];exact HRQ.out
   have hkin:∀ p∈qs.map entP,p.1∈told.keys++xbc es:=fun p hp=>by
    rcases (HSQ.out p.1 p.2).1 hp with h1 | ⟨_,h1⟩
    ·exact List.mem_append.2 (.inr (by rw[← xdk];exact List.mem_map.2 ⟨_,h1,rfl⟩))
    ·exact List.mem_append.2 (.inl (xbs h1))
   refine Xec ?_;intro hshare
   have hlen:∀ p∈qs.map entP,p.2.length≤1024:=fun p hp=>by
    rcases (HSQ.out p.1 p.2).1 hp with h1 | ⟨_,h1⟩
    ·obtain⟨e,he,h2⟩:=List.mem_map.1 h1
     unfold pw at h2;injection h2 with _ h3
     split at h3
     ·cases h3
     ·next hg =>
      injection h3 with h3;rw[← h3];exact HVL.out e he (by simpa using hg)
    ·exact xhx HOK.out _ h1
   have hparts:=xcv N d _ hd hris hshare
   have HFE:Hid (FrE N d ((qs.map toW).map Prod.fst) ((qs.map toW).map Prod.snd)):=hZ (by
    refine⟨by rw[hes];exact hparts,by rw[hes];exact hlen,by rw[hes];exact hshare,?_⟩;have h1:=xe3 hris;rw[List.map_map] at h1 ⊢;rw[List.map_map]
    exact h1)
   have hnew:newN told (esOf ((qs.map toW).map Prod.fst) ((qs.map toW).map Prod.snd))≤n:=by
    rw[hes,← HEL.out];exact new_le hti (xe3 hris) HSQ.out
   have HNW:=hZ (And.intro hnew (Nat.mul_le_mul_left (N+1) hnew))
   have HTF:Hid (SpB d told es (xak N d (esOf ((qs.map toW).map Prod.fst) ((qs.map toW).map Prod.snd)))):=hZ (by
    rw[hes];refine⟨xdj N d _ hd hparts hlen hshare,fun k v=>?_,?_⟩
    ·rw[xc7 N d _ hd hparts hlen hshare]
     exact HSQ.out k v
    ·refine Nat.le_trans (xc6 N d _).2 ?_
     rw[List.length_map,HEL.out];refine Nat.le_trans HQL.out.1 (Nat.add_le_add_right ?_ n)
     cases told with
     | nil=>simp[xd3]
     | leaf k v=>simp[xd3,Tre.size]
     | inner a b=>cases hti)
   have CF:Hid (Calls prog 226 #[pG gs,iV zo,iV d,sv.v] w (MadeT D w gs g σ R d (xak N d (esOf ((qs.map toW).map Prod.fst) ((qs.map toW).map Prod.snd))) ((N+1)*newN told (esOf ((qs.map toW).map Prod.fst) ((qs.map toW).map Prod.snd))))) :=
    hZ ((xis N).run d hd D w gs g σ vs vf R zo d told sv.A sv.n sv.c _ _ (HH.out.below HBW.out) HI.out HT.out hti (fun k v e=>by have h1:=HOK.out;rw[e] at h1;exact h1.1) HWF.out HFE.out HRL.out (by have h1:=HG.out.len;omega) (by have h1:=HNW.out.2;have h2:=HRM.out;omega))
   clear hes hris hkin hshare hlen hparts hnew HWF HFE HL;go_upto_region 13 with fail;refine X9a ?_;intro K hK;refine Xd7 ?_;(with_reducible refine(CF.out).mono ?_);rintro e w ⟨z1,D2,vs2,vf2,σ2,rfl,hP2,hS2,hI2,hY2,hT2,hr2,hu2⟩;have HP2:=hZ hP2;have HS2:=hZ ((Stp.of_below HBW.out).trans hS2);have HI2:=hZ hI2;have HY2:=hZ hY2;have HT2:=hZ hT2;have HU2:=hZ (And.intro hr2 hu2);clear hP2 hS2 hI2 hY2 hT2 hr2 hu2;refine X2m ?_;clear hK K;go_wp2_with fail;go_ret;exact⟨_,z1,D2,vs2,vf2,σ2,rfl,HP2.out,HS2.out,HI2.out,HY2.out.keeps HI.out,HT2.out,HU2.out.1,by have h1:=HU2.out.2;have h2:=HNW.out.2;omega,HTF.out⟩
end Go.Proofs.YtkjjdgnkelchfaaGreat
