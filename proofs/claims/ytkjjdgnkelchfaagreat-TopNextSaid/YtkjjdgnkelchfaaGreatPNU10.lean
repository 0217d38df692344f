import Derived.Test.YtkjjdgnkelchfaaGreatPNU9
set_option linter.unusedSimpArgs false
set_option linter.unusedVariables false
set_option maxRecDepth 100000
set_option maxHeartbeats 16000000
namespace Go.Proofs.YtkjjdgnkelchfaaGreat
open Go Go.RowKit Go.Proofs.Tryz
section
variable {P:Program}{T E:TypeId}{w0 w1 w w':World}{D:Nat→Prop}{L L0 L1 G:BL}{o:Oper}{a:Act}{K:Act→World→Prop}{Q:Exit→Act→World→Prop}
theorem xcj{zs:List Value}(Z:ZA P T zs)(ho:o.op=.alloc T)(H:Loc w0 D L w)(h:∀ g w',Loc w0 D ((g,T,zs)::L) w'→K (a.put o.dst (pG g)) w'):o.wp P a w K Q:=by
 obtain⟨zv,hz,hc⟩:=Z.i
 have e:(execOp a.eval o).run P w=.ok (.value (.pointer (some ⟨w.heap.size,0,none⟩))) (w.alloc (.cells zs.toArray T)):=by
  cases hq:P.info? T with
  | none=>simp[hq] at hz
  | some j =>
   have hj:j.zero=some zv:=by simpa[hq] using hz
   unfold execOp;simp[ho,Instr.alloc,zeroValue,typeInfo,hq,hj,newVar,newRow,hc]
 unfold Oper.wp;rw[e];exact h _ _ (H.new T zs)
theorem Gw.rdm{z n:Nat}{v:Sv}{xs:List Value}(h:Gw E z G v n xs)(hm:∀ x∈G,x∈L)(H:Loc w0 D L w):Rd w v.A xs:=by
 obtain⟨hl,⟨rfl,rfl,rfl⟩ | ⟨g,cap,tl,rfl,rfl,h1,h2,h3⟩⟩:=h
 ·have:xs = []:=List.eq_nil_of_length_eq_zero (by rw[hl];omega)
  subst this;exact Rd.nil _ _
 ·exact Rd.of_blk0 (H.blk (hm (g,E,xs++tl) (by simp)))
theorem Gw.txm{v:Sv}{l:LU}(h:Gw 5 1 G v l.length (bvs l))(hm:∀ x∈G,x∈L)(H:Loc w0 D L w):Tx w v.A v.n v.c l:=⟨h.len.symm,h.cap.1,h.cap.2,h.rdm hm H,fun _ _ h=>h⟩
inductive Gws:BL→List Sv→List LU→Prop
 | nil:Gws [] [] []
 | snoc {Gs G:BL} {vs:List Sv} {ls:List LU} {sv:Sv} {l:LU} (hs:Gws Gs vs ls) (h:Gw 5 1 G sv l.length (bvs l)):Gws (Gs++G) (vs++[sv]) (ls++[l])
structure AllTx (N:Nat)(w:World)(vs:List Sv)(ls:List LU):Prop where
 len:vs.length=ls.length
 tx:∀ (i:Nat)(v:Sv)(l:LU),vs[i]? = some v→ls[i]? = some l→Tx w v.A v.n v.c l∧∀ ad,v.A=some ad→N≤ad.block
theorem Gw.fars{z n N:Nat}{v:Sv}{xs:List Value}(h:Gw E z G v n xs)(hN:∀ x∈G,N≤x.1):∀ ad,v.A=some ad→N≤ad.block:=by
 intro ad e;obtain⟨hl,⟨rfl,rfl,rfl⟩ | ⟨g,cap,tl,rfl,rfl,h1,h2,h3⟩⟩:=h
 ·cases e
 ·cases e
  exact hN _ (List.mem_singleton.2 rfl)
theorem Gws.all{N:Nat}{Gs:BL}{vs:List Sv}{ls:List LU}(h:Gws Gs vs ls)(hm:∀ x∈Gs,x∈L)(hN:∀ x∈Gs,N≤x.1)(H:Loc w0 D L w):AllTx N w vs ls:=by
 induction h with
 | nil=>exact⟨rfl,fun i v l hv=>by cases hv⟩
 | @snoc Gs G vs ls sv l0 hs h ih =>
  have h0:=ih (fun x hx=>hm x (List.mem_append.2 (.inl hx))) (fun x hx=>hN x (List.mem_append.2 (.inl hx)));refine⟨by simp[h0.len],fun i v l hv hl=>?_⟩;have hle:=h0.len;by_cases hi:i<vs.length
  ·rw[List.getElem?_append_left hi] at hv
   rw[List.getElem?_append_left (by rw[← hle];exact hi)] at hl;exact h0.tx i v l hv hl
  ·rw[List.getElem?_append_right (by omega)] at hv
   rw[List.getElem?_append_right (by omega),← hle] at hl;have h1:=List.mem_singleton.1 (List.mem_of_getElem? hv);have h2:=List.mem_singleton.1 (List.mem_of_getElem? hl);subst h1 h2;exact⟨h.txm (fun x hx=>hm x (List.mem_append.2 (.inr hx))) H,h.fars (fun x hx=>hN x (List.mem_append.2 (.inr hx)))⟩
theorem Rd.keep0{A:Option Addr}{cs:List Value}(h:Rd w1 A cs)(H:Loc w1 D L w)(hD:∀ ad,A=some ad→ad.block<w1.heap.size→D ad.block):Rd w A cs:=by
 intro hn;obtain⟨ad,e,hc⟩:=h hn;refine H.rd (fun ad' e'=>?_) h hn;rw[e] at e';cases e';refine hD ad e ?_;have:=World.block_lt_of_cell? _ _ (hc 0 _ (List.getElem?_eq_getElem hn));rwa [show(ad.add 0).block=ad.block by unfold Addr.add;split<;>rfl] at this
structure TxR (N:Nat)(w:World)(sv:Sv)(ls:List LU):Prop where
 ex:∃ vs,Rd w sv.A (vs.map Sv.v)∧AllTx N w vs ls
 far:∀ ad,sv.A=some ad→N≤ad.block
 len:ls.length=sv.n
 cap:sv.n≤sv.c
theorem TxR.below{N:Nat}{sv:Sv}{ls:List LU}(h:TxR N w sv ls)(hb:Bw w w'):TxR N w' sv ls:=by
 obtain⟨xs,h1,h2⟩:=h.ex;exact⟨⟨xs,h1.below hb,h2.len,fun i v l hv hl=>⟨Tx.below (h2.tx i v l hv hl).1 hb,(h2.tx i v l hv hl).2⟩⟩,h.far,h.len,h.cap⟩
theorem TxR.at_{N:Nat}{sv:Sv}{ls:List LU}(h:TxR N w sv ls)(i:Nat)(hi:i<ls.length):∃ ad s,sv.A=some ad∧N≤ad.block∧Rd w (some (ad.add (i*1))) [Sv.v s]∧Tx w s.A s.n s.c (ls.getD i [])∧∀ ad,s.A=some ad→N≤ad.block:=by
 obtain⟨vs,h1,h2⟩:=h.ex;have hx:i<vs.length:=by rw[h2.len];exact hi
 obtain⟨ad,e,hc⟩:=h1 (by rw[List.length_map];omega);have e2:ls[i]? = some (ls.getD i []):=by simp[List.getD,hi]
 obtain⟨h4,h5⟩:=h2.tx i vs[i] _ (List.getElem?_eq_getElem hx) e2;refine⟨ad,vs[i],e,h.far ad e,?_,h4,h5⟩;have h6:=h1.cut i 1;rw[e] at h6
 have e3:((vs.map Sv.v).drop i).take 1 = [Sv.v vs[i]]:=by
  rw[List.drop_eq_getElem_cons (by rw[List.length_map];exact hx),List.getElem_map];rfl
 rw[e3] at h6;rw[Nat.mul_one];exact h6
theorem xdi(B:W1 P T)(x:Operand)(ho:o.op=.load T x)(ad:Addr)(v:Value)(hx:a.eval x=.pointer (some ad))(hr:Rd w (some ad) [v]):(execOp a.eval o).run P w=.ok (.value v) w:=by
 have e:ad.add 0=ad:=by unfold Addr.add;split<;>simp_all
 exact xdh B x ho ad 0 [v] v (by rw[e];exact hx) hr rfl
end
section
variable {P:Program}{w:World}{a:Act}{o:Oper}{t t':TypeId}
theorem xgs{b:Bool}(x:Operand)(ho:o.op=.unOp .not t x)(c:Bool)(hx:a.eval x=.bool c)(hb:(!c)=b):(execOp a.eval o).run P w=.ok (.value (.bool b)) w:=by
 subst hb;unfold execOp;simp only[ho,hx];go_simp
end
theorem Loc.after{D:Nat→Prop}{L:BL}{w0 w w1:World}(H:Loc w0 D L w)(hb:Bw w w1):Loc w1 (Rest w1 L) L w1:=(H.next hb).redo (Fr.refl (fun _=>False) _) (fun _ _ h=>h)
theorem Loc.fresh{D:Nat→Prop}{L:BL}{w0 w w1:World}(H:Loc w0 D L w){k:Nat}(h1:w.heap.size≤k)(h2:k<w1.heap.size):Rest w1 L k:=⟨h2,fun x hx e=>by have:=(H.own x hx).2.lt;omega⟩
section
variable {W0 w:World}{D:Nat→Prop}{L:BL}
theorem Rd.keepE{A:Option Addr}{cs:List Value}(h:Rd W0 A cs)(H:Loc W0 D L w)(hD:cs≠[]→∀ ad,A=some ad→D ad.block):Rd w A cs:=by
 intro hn;exact Rd.keep0 h H (fun ad e _=>hD (by intro e2;rw[e2] at hn;exact absurd hn (by simp)) ad e) hn
end
theorem tx_nil(w:World):Tx w none 0 0 []:=⟨rfl,Nat.le_refl _,by unfold maxLen;omega,Rd.nil _ _,fun _ _ h=>h⟩
section
variable {w1 w w2:World}{D:Nat→Prop}{L:BL}{N:Nat}
theorem Rd.lt{A:Option Addr}{cs:List Value}(h:Rd w A cs)(hne:cs≠[]){ad:Addr}(e:A=some ad):ad.block<w.heap.size:=by
 obtain⟨ad',e',hc⟩:=h (List.length_pos_iff.2 hne);rw[e] at e';cases e';have:=World.block_lt_of_cell? _ _ (hc 0 _ (List.getElem?_eq_getElem (List.length_pos_iff.2 hne)));rwa [show(ad.add 0).block=ad.block by unfold Addr.add;split<;>rfl] at this
theorem bvs_ne{l:LU}(h:bvs l≠[]):l≠[]:=by rintro rfl;exact h rfl
theorem bvs_ne2{l:LU}(h:l≠[]):bvs l≠[]:=by
 cases l with
 | nil=>exact absurd rfl h
 | cons x xs=>intro e;cases e
theorem fm_ne{α:Type}{f:α→List Value}{z:Nat}(hz:∀ x,(f x).length=z)(h0:0<z){xs:List α}:xs.flatMap f≠[]↔xs≠[]:=by
 constructor
 ·rintro h rfl;exact h rfl
 ·intro h e
  have h1:=xaw hz xs;rw[e,List.length_nil] at h1;have h2:=List.length_pos_iff.2 h;have h3:=Nat.mul_pos h2 h0;omega
end
theorem xam{P:Program}{w:World}{a:Act}{o:Oper}{t e:TypeId}(ht:P.underlying t=some (.slice e))(x:Operand)(ho:o.op=.call { callee:=.builtin .len,args:=#[x],argTypes:=#[t] })(sv:Sv)(n:Nat)(hx:a.eval x=sv.v)(hn:sv.n=n) :
  (execOp a.eval o).run P w=.ok (.value (iV n)) w:=by
 subst hn;exact xb3 ht x ho _ _ _ hx
theorem xej{α:Type}{l:List α}{k:Nat}{v:α}(h:l[k]? = some v):(l.drop k).take 1 = [v]:=by
 obtain⟨h1,h2⟩:=List.getElem?_eq_some_iff.1 h;rw[List.drop_eq_getElem_cons h1,h2];rfl
section
variable {D:Nat→Prop}{w w':World}{gs g:Nat}{σ:Sb}{vs vf:Sv}
theorem Loc.goes{w0 w w':World}{D0 D D':Nat→Prop}{L:BL}(H:Loc w0 (fun k=>Old w0 k∧¬ D0 k) L w)(hA:(∀ k,D k→¬ (Old w0 k∧¬ D0 k))∧∀ y∈L,¬ D y.1)(hs:Stp D w D' w') :
  Loc w0 (fun k=>Old w0 k∧¬ D0 k) L w'∧((∀ k,D' k→¬ (Old w0 k∧¬ D0 k))∧∀ y∈L,¬ D' y.1):=by
 refine⟨H.frame hs.fr hA.1 hA.2,fun k hk=>?_,fun y hy hk=>?_⟩
 ·rcases hs.new k hk with h1 | h1
  ·exact hA.1 k h1
  ·have:=H.fr.size
   unfold Old;omega
 ·rcases hs.new _ hk with h1 | h1
  ·exact hA.2 y hy h1
  ·have:=(H.own y hy).2.lt
   omega
theorem got0:Got σ 0 Nd.z [] false:=Or.inr ⟨rfl,by omega,rfl,rfl⟩
theorem way0(key:D32):Way σ key 0 [] 0:=.stop _ _ _ false got0 (by decide)
theorem root0:∀ u,StW D u gs σ→Calls prog 154 #[pG gs,iV 0] u (oB u (iV 0)):=fun u hu =>
 (xhn hu).mono (by rintro e w' ⟨rfl,rfl⟩;exact⟨rfl,Below.refl _ _⟩)
theorem rootL(z:Int)(n:Nd)(val:LU)(hG:Got σ z n val true)(hd:n.kind=1):∀ u,StW D u gs σ→Calls prog 154 #[pG gs,iV z] u (oB u (iV 0)):=fun u hu =>
 xjt hu z n val hG (.inl hd)
theorem wayL(key:D32)(z:Int)(n:Nd)(val:LU)(hG:Got σ z n val true)(hd:n.kind=1):Way σ key z [] z:=.stop _ _ _ true hG (by rw[hd];decide)
theorem fits1(h:StW D w gs σ)(hr:1≤σ.room∧σ.room≤65536)(hu:σ.used+258≤σ.room) :
  Calls prog 144 #[pG gs,iV 1] w fun e w'=>e=.returned (.bool true)∧w=w' :=
 xsr h hr 1 (by omega) (by omega) true (by simp;omega)
theorem xun(h:StP D w gs g σ vs vf)(key:D32)(A:Option Addr)(n c:Nat)(val:LU)(hr:Rd w A (bvs val))(hn:val.length=n∧n≤c∧c≤maxLen∧n≤1024)(hfit:σ.used+258≤σ.room) :
  Calls prog 90 #[pG gs,iV 0,key.a,.slice A n c] w (Took D w gs g σ fun x=>⟨xb9 key val x,1,val⟩):=by
 have HH:=hZ h;have hcs:=h.sb.ok;have r1:=hcs.r1;have r2:=hcs.r2;clear hcs;have HN:=hZ hn;have HF:=hZ hfit;have HR:=hZ hr;have kroom:((σ.room:Int)==0)=false:=by simp;omega
 have klen:decide ((1024:Int)<(n:Int))=false:=by simp;omega
 have hDO:∀ k,D k→k<w.heap.size:=h.sb.lt;clear h hn hr hfit;obtain⟨w0,rfl,HL⟩:=lS w;go_enter func90,ntmps90;go_upto_region 0 with fail;refine Xt ?_;refine X85 ?_;clear HL;intro g6 w HL;refine X1g ?_;go_upto_region 1 with fail;refine X80 ?_;intro K hK;refine X9d ?_;rintro e w ⟨rfl,rfl⟩;refine X5k ?_;clear hK K;refine X9e ?_;refine X1z ?_;go_upto_region 3 with fail;refine X12 ?_;refine X5m ?_;refine X6 ?_;refine X9f ?_;refine X1z ?_;go_upto_region 5 with fail;refine X2j ?_;intro K hK;refine X9g ?_;(with_reducible refine(xss (HH.out.below HL.below).sw).mono ?_);rintro e w ⟨rfl,rfl⟩;refine X2m ?_;clear hK K;go_upto_region 6 with fail;refine X2n ?_;go_upto_region 8 with fail;refine X1v ?_;intro K hK;refine X9h ?_;refine X9i ?_;rintro e w ⟨rfl,rfl⟩;refine X1y ?_;clear hK K;refine X28 ?_;go_upto_region 10 with fail;refine X19 ?_
 refine X6y ?_;intro K hK;refine xad cf145 rfl _ rfl ?_;refine X1w ?_;(with_reducible refine(xl6 (HH.out.below HL.below).sw 0 key A n c [] 0 (way0 _) (by simp) root0 Nd.z [] false got0 (by decide)).mono ?_);rintro e w ⟨v,rfl,ho,hvb,hb⟩;replace HL:=HL.next hb;have hvn:=xfh ho;obtain⟨vA,vn,vc⟩:=v;simp only[qs] at hvn;subst hvn;clear hb ho hvb;refine X5k ?_;clear hK K;refine xah xl4 rfl rfl HL ?_;clear HL;intro g11 w HL;refine X6 ?_;refine X8v ?_;refine X34 ?_;clear HL;intro w HL;go_upto_region 11 with fail;refine Xt ?_;refine X9j ?_;refine X6 ?_;refine X9k ?_;have hP:=HH.out.below HL.below;have hS0:Stp D w0 D w:=Stp.of_below HL.below;have hrd:=HL.rdO HR.out
 have HA:(∀ k,D k→¬ (Old w0 k∧¬ D k))∧∀ y∈[(g11,246,Plc.cells ⟨⟨vA,0,vc⟩,0,false,false⟩),(g6,24,key.c)],¬ D y.1:=⟨fun k hk hd=>hd.2 hk,fun y hy hk=>(HL.own y hy).1 (hDO _ hk)⟩;refine X9l ?_;intro HX;clear HL;have HL:=HX;clear HX;go_upto_region 13 with fail;refine X12 ?_;refine X89 ?_;refine X42 ?_;intro K hK;refine X9m ?_;refine X1w ?_;(with_reducible refine(xjv hP key A n c val hrd HN.out.1 HN.out.2.1 HN.out.2.2.1 HN.out.2.2.2 (by have:=HF.out;omega)).mono ?_);rintro e w ⟨D1,vs1,vf1,x,rfl,hP1,hst⟩;obtain⟨HL2,HA2⟩:=HL.goes HA hst;clear HL HA;have HL:=HL2;have HA:=HA2;have hS1:=hS0.trans hst;clear HL2 HA2 hst hS0 hP hrd;refine X7l ?_;clear hK K;go_upto_region 14 with fail;refine Xt ?_;refine X9n ?_;refine X6 ?_;refine X9o ?_;go_upto_region 22 with fail;refine Xt ?_;refine X8e ?_;refine X9p ?_;refine X6 ?_
 refine X3n ?_;refine X82 ?_;go_wp2_with fail;refine X9q ?_;rw[rounds_succ];go_upto_region 23 with fail;refine X2n ?_;go_upto_region 32 with fail;refine X2n ?_;go_upto_region 34 with fail;refine X3s ?_;go_wp2_with fail;go_ret2;exact⟨D1,vs1,vf1,x,rfl,hP1,hS1⟩
abbrev xkw(k:D32)(v:LU)(x:Sv)(h:Int):Nd:={ xb9 k v x with held:=h }
def σA(k:D32)(v:LU)(x:Sv)(room:Nat):Sb:=⟨[⟨xb9 k v x,1,v⟩],[],room,1⟩
def σ2(k:D32)(v:LU)(x:Sv)(l:D32)(u:LU)(y:Sv)(room:Nat):Sb:=⟨[⟨xb9 k v x,1,v⟩,⟨xb9 l u y,1,u⟩],[],room,2⟩
def σB(k:D32)(v:LU)(x:Sv)(l:D32)(u:LU)(y:Sv)(room:Nat):Sb:=⟨[⟨xkw k v x 2,2,v⟩,⟨xb9 l u y,1,u⟩],[],room,2⟩
abbrev twoNd(k:D32)(v:LU)(l:D32)(u:LU):Nd:=xco 0 k (tagL k (tagV v)) (tagL l (tagV u)) 1 2 2
def σC(k:D32)(v:LU)(x:Sv)(l:D32)(u:LU)(y:Sv)(room:Nat):Sb:=⟨[⟨xkw k v x 1,2,v⟩,⟨xkw l u y 0,1,u⟩,⟨twoNd k v l u,1,[]⟩],[],room,3⟩
def σD(k:D32)(v:LU)(x:Sv)(l:D32)(u:LU)(y:Sv)(room:Nat):Sb:=⟨[⟨xkw k v x 0,1,v⟩,⟨xkw l u y 0,1,u⟩,⟨twoNd k v l u,1,[]⟩],[],room,3⟩
section
variable {k l:D32}{v u:LU}{x y:Sv}{room:Nat}
theorem leaf_two(h:StP D w gs g (σA k v x room) vs vf)(key:D32)(A:Option Addr)(n c:Nat)(val:LU)(hr:Rd w A (bvs val))(hl:val.length=n)(hcap:n≤c)(hmax:c≤maxLen)(hn:n≤1024)(hroom:1<room) :
  Calls prog 146 #[pG gs,key.a,.slice A n c] w fun e w'=>∃ D' vs' vf' y,e=.returned (.tuple #[iV 2,iV 0])∧StP D' w' gs g (σ2 k v x key val y room) vs' vf'∧Stp D w D' w' :=
 (xjv h key A n c val hr hl hcap hmax hn hroom).mono (by rintro e w' ⟨D',vs',vf',y,rfl,h1,h2⟩;exact⟨D',vs',vf',y,rfl,h1,h2⟩)
theorem hold_two(h:StP D w gs g (σ2 k v x l u y room) vs vf):Calls prog 129 #[pG gs,iV 1] w fun e w'=>e=.returned (iV 0)∧StP D w' gs g (σB k v x l u y room) vs vf∧Stp D w D w' :=
 (xju h 1 0 rfl (Nat.zero_lt_succ _) (show(0:Int)<1 by decide) (show(1:Int)<1073741824 by decide) (show -4611686018427387904≤(1:Int)∧(1:Int)≤4611686018427387900 by decide)).mono (by rintro e w' ⟨rfl,h1,h2⟩;exact⟨rfl,h1,Stp.of_fr h2 fun k hk=>h.sb.own k hk⟩)
theorem xuo(h:StP D w gs g (σB k v x l u y room) vs vf)(hk:tb k.l 0=false)(hl:tb l.l 0=true)(hroom:2<room) :
  Calls prog 210 #[pG gs,.int .i64 ((0:Nat):Int),iV 1,iV 2] w (Goes D w gs g (.tuple #[iV 3,iV 0]) (σC k v x l u y room)) :=
 (xfa h ⟨List.nodup_nil,fun n hn=>by cases hn⟩ 0 (by omega) 0 1 rfl (Nat.zero_lt_succ _) (xkw k v x 2) rfl (show(2:Int)≠0 by decide) ⟨by show(tb k.l 0).toNat=0;rw[hk];rfl,fun e=>by cases e⟩ (show(0:Int)<2∧(2:Int)≤4611686018427387904 by decide) (show(0:Int)≤1∧(1:Int)≤1073741824 by decide) 1 2 rfl (Nat.succ_lt_succ (Nat.zero_lt_succ _)) (xb9 l u y) rfl (show(1:Int)≠0 by decide) ⟨by show(tb l.l 0).toNat=1;rw[hl];rfl,fun e=>by cases e⟩ (show(0:Int)<1∧(1:Int)≤4611686018427387904 by decide) (show(0:Int)≤1∧(1:Int)≤1073741824 by decide) (by omega) (Nat.zero_le _) hroom).mono (by
  rintro e w' ⟨D',vs',vf',rfl,h1,h2⟩;exact⟨D',vs',vf',rfl,h1,h2⟩)
theorem join_two(h:StP D w gs g (σB k v x l u y room) vs vf)(hk:tb k.l 0=false)(hl:tb l.l 0=true)(hroom:2<room) :
  Calls prog 149 #[pG gs,iV 0,l.a,iV 2,iV 1] w (Goes D w gs g (iV 3) (σC k v x l u y room)) :=
 xpd h 0 (by omega) l 2 1 3 _ hl fun u hu=>xuo hu hk hl hroom
theorem drop_two(h:StP D w gs g (σC k v x l u y room) vs vf):Calls prog 130 #[pG gs,iV 1] w (Goes D w gs g (.tuple #[iV 0,iV 0]) (σD k v x l u y room)) :=
 (xnl h 1 0 rfl (Nat.zero_lt_succ _) (show(1:Int)<2 by decide) (show(2:Int)<1099511627776 by decide) (show(0:Int)<1∧(1:Int)≤4611686018427387904 by decide)).mono (by rintro e w' ⟨D',vs',vf',rfl,h1,h2⟩;exact⟨D',vs',vf',rfl,h1,h2⟩)
theorem gotA:Got (σA k v x room) 1 (xb9 k v x) v true:=.inl ⟨rfl,0,rfl,Nat.zero_lt_succ _,rfl,rfl,(show(1:Int)≠0 by decide)⟩
theorem got2:Got (σ2 k v x l u y room) 1 (xb9 k v x) v true:=.inl ⟨rfl,0,rfl,Nat.zero_lt_succ _,rfl,rfl,(show(1:Int)≠0 by decide)⟩
end
theorem xqy(k1:D32)(v1:LU)(x1:Sv)(room:Nat)(h:StP D w gs g (σA k1 v1 x1 room) vs vf)(key:D32)(A:Option Addr)(n c:Nat)(val:LU)(hr:Rd w A (bvs val))(hn:val.length=n∧n≤c∧c≤maxLen∧n≤1024)(hfit:259≤room)
  (hk1:tb k1.l 0=false) (hk2:tb key.l 0=true) (hc:comm key.l k1.l=0) :
  Calls prog 90 #[pG gs,iV 1,key.a,.slice A n c] w fun e w'=>∃ D' vs' vf' x,e=.returned (.tuple #[iV 3,iV 0])∧StP D' w' gs g (σD k1 v1 x1 key val x room) vs' vf'∧Stp D w D' w':=by
 have HH:=hZ h;have hcs:=h.sb.ok;have r1:=hcs.r1;have r2:=hcs.r2;clear hcs;have HN:=hZ hn;have HF:=hZ (show(σA k1 v1 x1 room).used+258≤(σA k1 v1 x1 room).room from by show 1+258≤room;omega);have HR:=hZ hr;have kroom:(((σA k1 v1 x1 room).room:Int)==0)=false:=by simp;omega
 have klen:decide ((1024:Int)<(n:Int))=false:=by simp;omega
 have hDO:∀ k,D k→k<w.heap.size:=h.sb.lt;have HK:Hid ((xb9 k1 v1 x1).key.l≠key.l):=hZ (by intro e;have e2:k1.l=key.l:=e;rw[e2,hk2] at hk1;cases hk1);have HK2:=hZ (And.intro hk1 hk2)
 have CM:∀ u,Calls prog 147 #[key.a,(xb9 k1 v1 x1).key.a] u (oB u (iV 0)):=fun u=>by
  have h1:=xkp u key k1;rw[hc] at h1;exact h1
 have HROOM:=hZ hfit;clear h hn hr hfit hk1 hk2 hc;obtain⟨w0,rfl,HL⟩:=lS w;go_enter func90,ntmps90;go_upto_region 0 with fail;refine Xt ?_;refine X85 ?_;clear HL;intro g6 w HL;refine X1g ?_;go_upto_region 1 with fail;refine X80 ?_;intro K hK;refine X9d ?_;rintro e w ⟨rfl,rfl⟩;refine X5k ?_;clear hK K;refine X9e ?_;refine X1z ?_;go_upto_region 3 with fail;refine X12 ?_;refine X5m ?_;refine X6 ?_;refine X9f ?_;refine X1z ?_;go_upto_region 5 with fail;refine X2j ?_;intro K hK;refine X9g ?_;(with_reducible refine(athand (HH.out.below HL.below).sw 1 _ _ gotA (.inl rfl) (show(1:Int)≠0 by decide)).mono ?_);refine X7u ?_;clear hK K;intro w HL;go_upto_region 6 with fail;refine X2n ?_;go_upto_region 8 with fail;refine X1v ?_;intro K hK;refine X9h ?_;refine X9i ?_;rintro e w ⟨rfl,rfl⟩;refine X1y ?_;clear hK K;refine X28 ?_
 go_upto_region 10 with fail;refine X19 ?_;refine X6y ?_;intro K hK;refine xad cf145 rfl _ rfl ?_;refine X1w ?_;(with_reducible refine(xl7 (HH.out.below HL.below).sw 1 key A n c [] 1 (wayL key 1 _ _ gotA rfl) (by simp) (rootL 1 _ _ gotA rfl) _ _ true gotA rfl HK.out).mono ?_);rintro e w ⟨v,rfl,ho,hvb,hb⟩;replace HL:=HL.next hb;have hvn:=xfh ho;obtain⟨vA,vn,vc⟩:=v;simp only[qs] at hvn;subst hvn;clear hb ho hvb;refine X5k ?_;clear hK K;refine xah xl4 rfl rfl HL ?_;clear HL;intro g11 w HL;refine X6 ?_;refine X8v ?_;refine X34 ?_;clear HL;intro w HL;go_upto_region 11 with fail;refine Xt ?_;refine X9j ?_;refine X6 ?_;refine X9k ?_;have hP:=HH.out.below HL.below;have hS0:Stp D w0 D w:=Stp.of_below HL.below;have hrd:=HL.rdO HR.out
 have HA:(∀ k,D k→¬ (Old w0 k∧¬ D k))∧∀ y∈[(g11,246,Plc.cells ⟨⟨vA,0,vc⟩,1,false,true⟩),(g6,24,key.c)],¬ D y.1:=⟨fun k hk hd=>hd.2 hk,fun y hy hk=>(HL.own y hy).1 (hDO _ hk)⟩;refine X9l ?_;intro HX;clear HL;have HL:=HX;clear HX;go_upto_region 13 with fail;refine X12 ?_;refine X89 ?_;refine X42 ?_;intro K hK;refine X9m ?_;refine X1w ?_;(with_reducible refine(leaf_two hP key A n c val hrd HN.out.1 HN.out.2.1 HN.out.2.2.1 HN.out.2.2.2 (by have:=HROOM.out;omega)).mono ?_);rintro e w ⟨D1,vs1,vf1,x,rfl,hP1,hst⟩;obtain⟨HL2,HA2⟩:=HL.goes HA hst;clear HL HA;have HL:=HL2;have HA:=HA2;have hS1:=hS0.trans hst;clear HL2 HA2 hst hS0 hP hrd;refine X7l ?_;clear hK K;go_upto_region 14 with fail;refine Xt ?_;refine X9n ?_;refine X6 ?_;refine X9o ?_;have HP1:=hZ hP1;clear hP1;obtain⟨w1,rfl⟩:=eW w
 go_upto_region 15 with fail;refine rB (Loc.P HL) [] [4,5] [0,1,2,3,4,5,6] 0 ?_;refine X3a ?_;intro HL;refine X5r ?_;refine X3g ?_;refine X8y ?_;refine X6 ?_;refine X8z ?_;refine X91 ?_;intro K hK;(with_reducible refine(xij (HP1.out.sw.below (Below.refl _ _).drew) 1 (xb9 k1 v1 x1) v1 true got2).mono ?_);refine X43 ?_;intro w hb HL;refine X5u ?_;intro hB1;clear hb;refine X79 ?_;clear hK K;intro K hK;refine xad cf147 rfl _ rfl ?_;refine X1w ?_;(with_reducible refine(CM _).mono ?_);refine X43 ?_;intro w hb HL;replace hB1:Bw w1 w:=hB1.trans (hb.mono hB1.size);clear hb;refine X5v ?_;clear hK K;refine X4p ?_;have hP1:=HP1.out.below hB1;have hS1b:=hS1.trans (Stp.of_below hB1);clear HP1 hB1 hS1;go_upto_region 16 with fail;refine X12 ?_;refine X8f ?_;refine X8g ?_;refine X50 ?_;intro K hK;refine X9r ?_
 (with_reducible refine(hold_two hP1).mono ?_);rintro e w ⟨rfl,hP2,hst⟩;obtain⟨HL2,HA2⟩:=HL.goes HA hst;clear HL HA;have HL:=HL2;have HA:=HA2;have hS2:=hS1b.trans hst;clear HL2 HA2 hst hS1b hP1;refine X20 ?_;clear hK K;go_upto_region 17 with fail;refine X19 ?_;refine X89 ?_;refine X15 ?_;refine X8f ?_;refine X8g ?_;refine X50 ?_;intro K hK;refine X9s ?_;(with_reducible refine(join_two hP2 HK2.out.1 HK2.out.2 (by have:=HROOM.out;omega)).mono ?_);rintro e w ⟨D3,vs3,vf3,rfl,hP3,hst⟩;obtain⟨HL2,HA2⟩:=HL.goes HA hst;clear HL HA;have HL:=HL2;have HA:=HA2;have hS3:=hS2.trans hst;clear HL2 HA2 hst hS2 hP2;refine X2m ?_;clear hK K;go_upto_region 18 with fail;refine X5g ?_;go_wp2_with fail;refine X9q ?_;rw[rounds_succ];go_upto_region 19 with fail;refine X12 ?_;refine X8e ?_;refine X9p ?_;refine X6 ?_;refine X3n ?_;refine X28 ?_
 go_upto_region 22 with fail;refine Xt ?_;refine X8e ?_;refine X9p ?_;refine X6 ?_;refine X3n ?_;refine X82 ?_;go_wp2_with fail;refine X9q ?_;rw[rounds_succ];go_upto_region 23 with fail;refine X2n ?_;go_upto_region 32 with fail;refine X2n ?_;go_upto_region 33 with fail;refine X9u ?_;intro K hK;(with_reducible refine(drop_two hP3).mono ?_);rintro e w ⟨D4,vs4,vf4,rfl,hP4,hst⟩;have hS4:=hS3.trans hst;clear hst hS3 hP3 HL HA;refine X20 ?_;clear hK K;go_upto_region 34 with fail;refine X3s ?_;go_wp2_with fail;go_ret2;exact⟨D4,vs4,vf4,x,rfl,hP4,hS4⟩
end
section
variable {P:Program}{t:TypeId}{w0 w:World}{D:Nat→Prop}{L:BL}{ops:Array Oper}{rest:List Oper}{o:Oper}{a:Act}{Q:Exit→Act→World→Prop}
theorem lo_map(hgd:o.guard=none)(ho:o.op=.makeMap t none)(H:Loc w0 D L w)
  (h:∀ g w',Loc w0 D L w'→wpList P ops Q rest (a.put o.dst (.map (some g))) w'):wpList P ops Q (o::rest) a w:=by
 refine X1 ?_;intro K hK;unfold Oper.wp execOp;simp only[ho,Option.map_none,Sem.run_bind,run_makeMap_plain,Result.andThen_ok];exact hK _ _ (h _ _ (H.next ((Below.refl _ _).alloc (Nat.le_refl _) _)))
end
section
variable {D:Nat→Prop}{w w':World}{gd gs g:Nat}{σ:Sb}{vs vf:Sv}{nm:Value}{root:Int}
theorem xl8(r:Nat)(h1:1≤r)(h2:r≤65536):Calls prog 91 #[iV r] w fun e w'=>∃ gs g D,e=.returned (.tuple #[pG gs,iV 0])∧StP D w' gs g ⟨[],[],r,0⟩ Sv.nil Sv.nil∧(∀ k,D k→w.heap.size≤k)∧Bw w w':=by
 obtain⟨w0,rfl,HL⟩:=lS w;go_enter func91,ntmps91;go_upto_region 0 with fail;refine X2y ?_;go_upto_region 1 with fail;refine X1v ?_;intro K hK;refine xad cf151 rfl _ rfl ?_;refine X1w ?_;(with_reducible refine(sb_new r h1 h2).mono ?_);rintro e w ⟨g,rfl,hg,hsb,hb⟩;have hB1:=HL.below.trans (hb.mono HL.below.size);have hg2:=Nat.le_trans HL.below.size hg;clear HL hb hg;have HL:=Loc.start w;obtain⟨w1,rfl⟩:=eW w;refine X7l ?_;clear hK K;go_upto_region 2 with fail;refine X2n ?_;go_upto_region 4 with fail;refine X12 ?_;refine xaa rfl _ (xbp bs256 _ rfl _ (by exact bd256_25 _ rfl)) ?_;refine X6 ?_;refine xcs rfl _ rfl HL _ rfl ?_;clear HL;intro g16 w HL;refine X1g ?_;go_wp2_with fail;go_ret2;have hgs:=HL.own _ (.head _);have hsb2:=hsb.below HL.below
 refine⟨g16,g,(fun k=>k=g∨k=g16),rfl,⟨hgs.2,.inr rfl,hsb2.more (fun k hk=>.inl hk) ?_⟩,?_,hB1.trans (HL.below.mono hB1.size)⟩
 ·rintro k (rfl | rfl)
  ·exact hsb2.lt _ rfl
  ·exact hgs.2.lt
 ·rintro k (rfl | rfl)
  ·exact hg2
  ·have:=hgs.1
   unfold Old at this;have:=hB1.size;omega
theorem xnn(h:StW D w gs σ)(hr:1≤σ.room):Calls prog 92 #[pG gs] w fun e w'=>∃ gv,e=.returned (.tuple #[pG gv,iV 0])∧Bw w w':=by
 have HH:=hZ h;have k1:((σ.room:Int)==0)=false:=by simp;omega
 clear h;obtain⟨w0,rfl,HL⟩:=lS w;go_enter func92,ntmps92;go_upto_region 0 with fail;refine X2y ?_;go_upto_region 1 with fail;refine X80 ?_;intro K hK;refine X9v ?_;rintro e w ⟨rfl,rfl⟩;refine X5k ?_;clear hK K;refine X9w ?_;refine X1z ?_;go_upto_region 3 with fail;refine X12 ?_;refine lo_map rfl rfl HL ?_;clear HL;intro g8 w HL;refine X9x ?_;refine X6 ?_;refine X9y ?_;clear HL;intro g10 w HL;refine X1g ?_;go_wp2_with fail;go_ret2;exact⟨_,rfl,HL.below⟩
structure DcP (D:Nat→Prop)(w:World)(gd gs g:Nat)(σ:Sb)(vs vf:Sv)(nm:Value)(root:Int):Prop where
 blk:Blk w gd 166 [nm,pG gs,iV root]
 st:StP D w gs g σ vs vf
 far : ¬ D gd
theorem DcP.c1(h:DcP D w gd gs g σ vs vf nm root):w.cell? ⟨gd,1,none⟩=some (pG gs):=by rw[h.blk.cell];rfl
theorem DcP.c2(h:DcP D w gd gs g σ vs vf nm root):w.cell? ⟨gd,2,none⟩=some (iV root):=by rw[h.blk.cell];rfl
theorem DcP.below(h:DcP D w gd gs g σ vs vf nm root)(hb:Bw w w'):DcP D w' gd gs g σ vs vf nm root:=⟨h.blk.below hb h.blk.lt,h.st.below hb,h.far⟩
theorem dict_new(r:Nat)(h1:1≤r)(h2:r≤65536):Calls prog 36 #[iV r] w fun e w'=>∃ gd gs g D nm,e=.returned (.tuple #[pG gd,iV 0])∧DcP D w' gd gs g ⟨[],[],r,0⟩ Sv.nil Sv.nil nm 0∧(∀ k,D k→w.heap.size≤k)∧w.heap.size≤gd∧Bw w w':=by
 obtain⟨w0,rfl,HL⟩:=lS w;go_enter func36,ntmps36;go_upto_region 0 with fail;refine X2y ?_;go_upto_region 1 with fail;refine X1v ?_;intro K hK;refine xad cf91 rfl _ rfl ?_;refine X1w ?_;(with_reducible refine(xl8 r h1 h2).mono ?_);rintro e w ⟨gs,g,D,rfl,hst,hnew,hb⟩;refine X9z ?_;intro hB1 hnew2;clear HL hb hnew;have HL:=Loc.start w;obtain⟨w1,rfl⟩:=eW w;refine X7l ?_;clear hK K;go_upto_region 2 with fail;refine X2n ?_;go_upto_region 4 with fail;refine X1v ?_;intro K hK;refine xad cf92 rfl _ rfl ?_;refine X1w ?_;(with_reducible refine(xnn (hst.below HL.below).sw h1).mono ?_);rintro e w ⟨gv,rfl,hb⟩;replace HL:=HL.next hb;clear hb;refine X7l ?_;clear hK K;go_upto_region 5 with fail;refine X2n ?_;go_upto_region 7 with fail;refine Xa0 ?_;refine Xa1 ?_;refine X6 ?_
 refine xcs rfl _ rfl HL _ rfl ?_;clear HL;intro g27 w HL;refine X1g ?_;go_wp2_with fail;go_ret2;have hgd:=HL.own _ (.head _);refine⟨g27,gs,g,D,_,rfl,⟨hgd.2,hst.below HL.below,fun hk=>hgd.1 (hst.sb.lt _ hk)⟩,hnew2,?_,hB1.trans (HL.below.mono hB1.size)⟩;have:=hgd.1;unfold Old at this;have:=hB1.size;omega
end
end Go.Proofs.YtkjjdgnkelchfaaGreat
namespace Go.Proofs.YtkjjdgnkelchfaaGreat
open Go Go.RowKit Go.Proofs.Tryz
open Go.WideMaps (KeyLaw)
def MapP(w:World)(b:Nat)(es:List (Value×Value)):Prop:=∃ (ents:Array MapEntry)(clock:Nat),w.heap[b]? = some (.map ents clock)∧ents.toList.map (fun e=>(e.key,e.val))=es
section
variable {P:Program}{w w':World}{b:Nat}{es:List (Value×Value)}{k k' t e:TypeId}{key val z:Value}{kl:Lit}{o:Oper}{a:Act}{K:Act→World→Prop}{Q:Exit→Act→World→Prop}
theorem MapP.lt(h:MapP w b es):b<w.heap.size:=by
 obtain⟨ents,clock,hb,_⟩:=h;exact(Array.getElem?_eq_some_iff.1 hb).1
theorem MapP.fr{S:Nat→Prop}(h:MapP w b es)(hf:Fr S w w')(hS : ¬ S b):MapP w' b es:=by
 have hlt:=h.lt;obtain⟨ents,clock,hb,he⟩:=h;exact⟨ents,clock,(hf.block b hlt hS).trans hb,he⟩
theorem MapP.below(h:MapP w b es)(hb:Bw w w'):MapP w' b es:=h.fr (S:=fun _=>False) (Fr.of_below hb) (fun f=>f)
theorem MapP.ne_blk(h:MapP w b es){g T:Nat}{cs:List Value}(hg:Blk w g T cs):b≠g:=fun e=>by
 subst e;obtain⟨ents,clock,hb,_⟩:=h;unfold Blk at hg;rw[hg] at hb;cases hb
def xil(P:Program)(k:TypeId)(es:List (Value×Value)):Prop:=∀ x∈es,∃ l,keyOf P k x.1=some l
theorem MapP.find(h:MapP w b es)(K:KeyLaw P k)(hes:xil P k es)(hkey:keyOf P k key=some kl):∃ (ents:Array MapEntry)(clock:Nat),w.heap[b]? = some (.map ents clock)∧ents.toList.map (fun e=>(e.key,e.val))=es ∧
  (((Instr.findKey k key ents.toList).run P w=.ok none w∧∀ x∈es,x.1≠key)∨∃ (j:Nat)(v:Value)(e0:MapEntry),(Instr.findKey k key ents.toList).run P w=.ok (some (j,v)) w∧es[j]? = some (key,v)∧ents[j]? = some e0∧e0.key=key):=by
 obtain⟨ents,clock,hb,he⟩:=h;have hk:∀ x∈ents.toList,∃ l,keyOf P k x.key=some l:=fun x hx=>hes (x.key,x.val) (by rw[← he];exact List.mem_map.2 ⟨x,hx,rfl⟩)
 refine⟨ents,clock,hb,he,?_⟩;rcases K.find w hkey ents.toList hk with⟨h1,h2⟩ | ⟨j,e0,h1,h2,h3⟩
 ·refine .inl ⟨h1,fun x hx=>?_⟩
  rw[← he] at hx;obtain⟨y,hy,rfl⟩:=List.mem_map.1 hx;exact h2 y hy
 ·refine .inr ⟨j,e0.val,e0,h1,?_,by simpa using h2,h3⟩
  rw[← he,List.getElem?_map,h2,← h3];rfl
theorem xfj(H:MapP w b es)(K:KeyLaw P k)(ht:P.underlying t=some (.map k e))(hz:(zeroValue e).run P w=.ok z w)(hes:xil P k es)(hkey:keyOf P k key=some kl)(m x:Operand)(ho:o.op=.lookup t m x true)(hm:a.eval m=.map (some b))(hx:a.eval x=key)
  (v:Value) (ok:Bool) (h:((∀ y∈es,y.1≠key)→v=z∧ok=false)∧(∀ (j:Nat)(u:Value),es[j]? = some (key,u)→v=u∧ok=true)):(execOp a.eval o).run P w=.ok (.value (.tuple #[v,.bool ok])) w:=by
 obtain⟨ents,clock,hb,he,h1 | ⟨j,u,e0,h1,h2,_⟩⟩:=H.find K hes hkey
 ·obtain⟨rfl,rfl⟩:=h.1 h1.2
  unfold execOp;simp[ho,hm,hx,Instr.lookup,run_underlying ht,MapKept.run_getObj_map hb,K.check w _ hkey,h1.1,hz,Result.andThen]
 ·obtain⟨rfl,rfl⟩:=h.2 j u h2
  unfold execOp;simp[ho,hm,hx,Instr.lookup,run_underlying ht,MapKept.run_getObj_map hb,K.check w _ hkey,h1,Result.andThen]
theorem xfb{b:Nat}{o o':Obj}(hb:w.heap[b]? = some o):({ w with heap:=w.heap.setIfInBounds b o' }:World).heap[b]? = some o':=by
 have hlt:=(Array.getElem?_eq_some_iff.1 hb).1;simp[Array.getElem?_setIfInBounds,hlt]
theorem xim(b:Nat)(o':Obj):w.grownBy { w with heap:=w.heap.setIfInBounds b o' } (some b) :=
 ⟨rfl,rfl,rfl,by simp,fun i _ hi=>by
  have hne : ¬ b=i:=fun e=>hi (by rw[e])
  simp[Array.getElem?_setIfInBounds,hne]⟩
theorem xl9(H:MapP w b es)(K':KeyLaw P k)(ht:P.underlying t=some (.map k e))(hes:xil P k es)(hkey:keyOf P k key=some kl)(m x y:Operand)(ho:o.op=.mapUpdate t m x y)(hm:a.eval m=.map (some b))(hx:a.eval x=key)(hy:a.eval y=val)
  (hn:∀ p∈es,p.1≠key) (h:∀ w',MapP w' b (es++[(key,val)])→w.grownBy w' (some b)→K (a.put o.dst undef) w'):o.wp P a w K Q:=by
 obtain⟨ents,clock,hb,he,h1 | ⟨j,u,e0,h1,h2,_⟩⟩:=H.find K' hes hkey
 ·have hrun:(Instr.mapUpdate t (.map (some b)) key val).run P w=.ok () { w with heap:=w.heap.setIfInBounds b (.map (ents.push ⟨key,val,clock⟩) (clock+1)) }:=by
   simp[Instr.mapUpdate,run_underlying ht,MapKept.run_getObj_map hb,K'.check w false hkey,h1.1,MapKept.run_setObj_map _ hb,Result.andThen]
  unfold Oper.wp;simp[execOp,ho,hm,hx,hy,hrun,Result.andThen];exact h _ ⟨_,_,xfb hb,by simp[he]⟩ (xim b _)
 ·exact absurd rfl (hn _ (List.mem_of_getElem? h2))
theorem xhp{α β:Type}(f:α→β)(l:List α)(j:Nat):(l.eraseIdx j).map f=(l.map f).eraseIdx j:=by
 induction l generalizing j with
 | nil=>rfl
 | cons x l ih=>cases j with
  | zero=>rfl
  | succ j=>simp[ih]
theorem xup(H:MapP w b es)(K':KeyLaw P k)(ht:P.underlying t=some (.map k e))(hes:xil P k es)(hkey:keyOf P k key=some kl)(m x:Operand)(ho:o.op=.call { callee:=.builtin .delete,args:=#[m,x],argTypes:=#[t,k'] })(hm:a.eval m=.map (some b))(hx:a.eval x=key)
  (h:∀ w' es',MapP w' b es'→w.grownBy w' (some b)→(((∀ p∈es,p.1≠key)∧es'=es)∨∃ (j:Nat)(u:Value),es[j]? = some (key,u)∧es'=es.eraseIdx j)→K (a.put o.dst (.tuple #[])) w'):o.wp P a w K Q:=by
 obtain⟨ents,clock,hb,he,h1 | ⟨j,u,e0,h1,h2,h3,_⟩⟩:=H.find K' hes hkey
 ·have hrun:(Builtin.delete_ #[t,k'] o.type #[.map (some b),key]).run P w=.ok (.tuple #[]) { w with heap:=w.heap.setIfInBounds b (.map ents clock) }:=by
   simp[Builtin.delete_,run_underlying ht,MapKept.run_getObj_map hb,K'.check w _ hkey,h1.1,MapKept.run_setObj_map _ hb,Result.andThen]
  unfold Oper.wp execOp;simp only[ho,resolve,invoke,builtin,Sem.run_bind,Sem.run_pure,Result.andThen_ok,List.map_toArray,qk,ql,hm,hx,hrun];exact h _ es ⟨_,_,xfb hb,he⟩ (xim b _) (.inl ⟨h1.2,rfl⟩)
 ·have hrun:(Builtin.delete_ #[t,k'] o.type #[.map (some b),key]).run P w=.ok (.tuple #[]) { w with heap:=w.heap.setIfInBounds b (.map (ents.eraseIdxIfInBounds j) clock) }:=by
   simp[Builtin.delete_,run_underlying ht,MapKept.run_getObj_map hb,K'.check w _ hkey,h1,MapKept.run_setObj_map _ hb,Result.andThen]
  have hjl:j<ents.size:=(Array.getElem?_eq_some_iff.1 h3).1
  have hsub:(ents.eraseIdxIfInBounds j).toList=ents.toList.eraseIdx j:=by
   unfold Array.eraseIdxIfInBounds;rw[dif_pos hjl];simp
  unfold Oper.wp execOp;simp only[ho,resolve,invoke,builtin,Sem.run_bind,Sem.run_pure,Result.andThen_ok,List.map_toArray,qk,ql,hm,hx,hrun];exact h _ _ ⟨_,_,xfb hb,by rw[hsub,xhp,he]⟩ (xim b _) (.inr ⟨j,u,h2,rfl⟩)
theorem xja(H:MapP w b es)(ht:P.underlying t=some (.map k e))(m:Operand)(ho:o.op=.call { callee:=.builtin .len,args:=#[m],argTypes:=#[t] })(hm:a.eval m=.map (some b)):(execOp a.eval o).run P w=.ok (.value (iV (es.length:Int))) w:=by
 obtain⟨ents,clock,hb,he⟩:=H;have hl:ents.size=es.length:=by rw[← he];simp
 have hrun:(Builtin.len_ #[t] o.type #[.map (some b)]).run P w=.ok (iV (es.length:Int)) w:=by
  simp[Builtin.len_,run_underlying ht,MapKept.run_getObj_map hb,Result.andThen,hl,goInt]
 unfold execOp;simp only[ho,resolve,invoke,builtin,Sem.run_bind,Sem.run_pure,Result.andThen_ok,List.map_toArray,qk,ql,hm,hrun]
theorem new_map(w:World):MapP (w.alloc (.map #[] 0)) w.heap.size []:=⟨#[],0,(MapKept.heap_alloc w _).1,rfl⟩
theorem xst{w0:World}{D:Nat→Prop}{L:BL}{ops:Array Oper}{rest:List Oper}(hgd:o.guard=none)(ho:o.op=.makeMap t none)(H:Loc w0 D L w)
  (h:∀ g w',Loc w0 D L w'→MapP w' g []→w.heap.size≤g→(∀ x∈L,x.1≠g)→wpList P ops Q rest (a.put o.dst (.map (some g))) w'):wpList P ops Q (o::rest) a w:=by
 refine X1 ?_;intro K hK;unfold Oper.wp execOp;simp only[ho,Option.map_none,Sem.run_bind,run_makeMap_plain,Result.andThen_ok];exact hK _ _ (h _ _ (H.next ((Below.refl _ _).alloc (Nat.le_refl _) _)) (new_map w) (Nat.le_refl _) (fun x hx e=>by have:=(H.own x hx).2.lt;omega))
end
theorem laidB:laidOutB prog=true:=by kernel_rfl
theorem law24:KeyLaw prog 24:=deep_law_laid laidB (m:=3) (by omega) (of_decide_eq_true (by kernel_rfl)) (by kernel_rfl) (by rw[underlying24])
theorem law9:KeyLaw prog 9:=WideMaps.string_law underlying9
theorem xma{α β:Type}(f:α→Option β):∀ l:List α,(∀ x∈l,∃ y,f x=some y)→∃ ys,l.mapM f=some ys
 | [],_=>⟨[],rfl⟩
 | x::l,h=>by
  obtain⟨y,hy⟩:=h x (by simp);obtain⟨ys,hys⟩:=xma f l fun z hz=>h z (by simp[hz])
  exact⟨y::ys,by simp[List.mapM_cons,hy,hys]⟩
theorem key24(x:D32):∃ l,keyOf prog 24 (.agg x.c.toArray)=some l:=by
 have hkt:prog.keyType 24=true:=by kernel_rfl
 have hc24:prog.cellsOf 24=32:=by kernel_rfl
 have hc5:prog.cellsOf 5=1:=by kernel_rfl
 have hf:(Value.agg x.c.toArray).formed prog 24=true:=by simp[Value.formed,underlying24,hc24,D32.cl]
 have hsz:∃ n,prog.types.size=n+1:=⟨prog.types.size - 1,by have:0<prog.types.size:=of_decide_eq_true (by kernel_rfl);omega⟩;obtain⟨n,hn⟩:=hsz
 have hl:∃ ls,prog.keyLits (prog.types.size+1) 24 x.c=some ls:=by
  rw[hn];unfold Program.keyLits;simp only[underlying24];rw[if_pos (by rw[D32.cl,hc24])]
  obtain⟨ys,hys⟩:=xma (fun i=>prog.keyLits (n+1) 5 ((x.c.drop (i*prog.cellsOf 5)).take (prog.cellsOf 5))) (List.range 32) fun i hi=>by
   have hi:i<32:=by simpa using hi
   rw[hc5,Nat.mul_one];have hix:i<x.c.length:=by rw[D32.cl];exact hi
   have e:(x.c.drop i).take 1 = [x.c[i]]:=by rw[List.drop_eq_getElem_cons hix];rfl
   rw[e];have hv:x.c[i]=.int .u8 ((x.l[i]'(by rw[x.h];exact hi)).toNat:Int):=by simp[D32.c,bvs,bv]
   rw[hv];unfold Program.keyLits;simp only[underlying5]
   have hw:(Lit.int .u8 ((x.l[i]'(by rw[x.h];exact hi)).toNat:Int)).wf=true:=by
    have:=(x.l[i]'(by rw[x.h];exact hi)).toNat_lt;simp[Lit.wf,IntKind.min,IntKind.max,IntKind.bits,IntKind.signed];omega
   exact⟨_,if_pos ⟨trivial,hw⟩⟩
  exact⟨_,by rw[hys];rfl⟩
 obtain⟨ls,hls⟩:=hl;refine⟨.string (keyBytes ls),?_⟩;unfold keyOf;simp only[underlying24,hkt,hf,Bool.and_self,if_true];have e:(Value.agg x.c.toArray).cells.toList=x.c:=by simp[Value.cells]
 rw[e,hls];rfl
theorem key9(s:ByteArray)(h:s.size≤maxLen):∃ l,keyOf prog 9 (.string s)=some l:=⟨_,by simp[keyOf,underlying9,mapKey,h];rfl⟩
end Go.Proofs.YtkjjdgnkelchfaaGreat
namespace Go.Proofs.YtkjjdgnkelchfaaGreat
open Go Go.RowKit Go.Proofs.Tryz
theorem xqz(x:Int)(w:World)(h0:0≤x)(h1:x≤255) :
  Calls prog 202 #[.int .u64 x] w fun e w'=>∃ r,e=.returned (iV r)∧w=w':=by
 have k1:decide (x≥4294967296)=false:=by simp;omega
 have k2:decide (x≥65536)=false:=by simp;omega
 have k3:decide (x≥256)=false:=by simp;omega
 have k4:x%256=x:=by omega
 refine X2 ?_;intro e;go_enter func202,ntmps202
 go_wp2
 go_ret;exact⟨_,rfl,rfl⟩
theorem xhq(x:Int)(w:World)(h0:0≤x)(h1:x≤255) :
  Calls prog 135 #[.int .u64 x] w fun e w'=>∃ r,e=.returned (iV r)∧w=w':=by
 go_enter func135,ntmps135;go_wp2_with (go_at_call 202;refine(xqz _ _ h0 h1).mono ?_;rintro e w' ⟨r,rfl,rfl⟩);go_ret;exact⟨_,rfl,rfl⟩
section
variable {P:Program}{w:World}{o:Oper}{a:Act}{Q:Exit→Act→World→Prop}{K:Act→World→Prop}
theorem xhr{n:Nat}(C:CF P n){x:Operand}{xs:List Operand}{ts:Array TypeId}(ho:o.op=.call { callee:=.value x,args:=xs.toArray,argTypes:=ts })(hx:a.eval x=.func (.func n) #[] #[])
  (args:List Value) (ha:xs.map a.eval=args) (hC:Calls P n args.toArray w fun e w'=>∃ v,e=.returned v∧K (a.put o.dst v) w'):o.wp P a w K Q:=by
 obtain⟨fn,hf,hnm,hb⟩:=C.f
 have e:(execOp a.eval o).run P w=.ok (.enter n args.toArray) w:=by
  unfold execOp;simp only[ho,resolve,ha,List.map_toArray,hx];have h1:fn.name≠ "runtime.NumGoroutine" := by simpa using hnm
  have h2:fn.body≠none:=by intro h;rw[h] at hb;cases hb
  simp[Deferred.ofValue,invoke,callFunc,hf,h1,h2]
 unfold Oper.wp;rw[e];refine hC.mono ?_;rintro e w' ⟨v,rfl,hk⟩;exact hk
end
theorem xet{α:Type}(f:α→Nat):∀ (l:List α)(i:Nat)(x:α)(h:i<l.length),((l.set i x).map f).sum+f l[i]=(l.map f).sum+f x
 | [],_,_,h=>absurd h (Nat.not_lt_zero _)
 | a::l,0,x,_=>by simp only[qg,qk,List.sum_cons,List.getElem_cons_zero];omega
 | a::l,i+1,x,h=>by
  have:=xet f l i x (by simpa using h);simp only[qh,qk,List.sum_cons,List.getElem_cons_succ];omega
theorem xq0{α:Type}(f:α→Nat)(l:List α)(i:Nat)(h:i<l.length):f l[i]≤(l.map f).sum:=by
 induction l generalizing i with
 | nil=>exact absurd h (Nat.not_lt_zero _)
 | cons a l ih =>
  cases i with
  | zero=>simp
  | succ i =>
   have:=ih i (by simpa using h);simp only[qk,List.sum_cons,List.getElem_cons_succ];omega
theorem sum_zero{α:Type}(f:α→Nat)(l:List α)(h:∀ x∈l,f x=0):(l.map f).sum=0:=by
 induction l with
 | nil=>rfl
 | cons a l ih =>
  simp only[qk,List.sum_cons];have h1:=h a (by simp);have h2:=ih fun x hx=>h x (by simp[hx])
  omega
def En.pts(e:En)(z:Int):Nat:=(if e.nd.left=z then 1 else 0)+(if e.nd.right=z then 1 else 0)
def Sb.refs(σ:Sb)(z:Int):Nat:=(σ.slots.map fun e=>e.pts z).sum
def En.occ(e:En):Nat:=if e.count=0 then 0 else 1
def Sb.In(σ:Sb)(z:Int):Prop:=∃ i:Nat,i<σ.slots.length∧z=(i:Int)+1
structure Sb.Inv (σ:Sb)(R T:List Int):Prop where
 ok:σ.Ok
 nice:σ.Nice
 count:∀ (i:Nat)(h:i<σ.slots.length),σ.slots[i].count=((R.count ((i:Int)+1)+T.count ((i:Int)+1)+σ.refs ((i:Int)+1):Nat):Int)
 held:∀ (i:Nat)(h:i<σ.slots.length),σ.slots[i].nd.held=((R.count ((i:Int)+1):Nat):Int)
 free:∀ (i:Nat)(h:i<σ.slots.length),σ.slots[i].count=0→σ.slots[i].nd=Nd.z
 used:σ.used=(σ.slots.map En.occ).sum
 root:∀ z∈R,σ.In z
 todo:∀ z∈T,σ.In z
 left:∀ (i:Nat)(h:i<σ.slots.length),σ.slots[i].nd.left=0∨σ.In σ.slots[i].nd.left
 right:∀ (i:Nat)(h:i<σ.slots.length),σ.slots[i].nd.right=0∨σ.In σ.slots[i].nd.right
inductive Sb.Live (σ:Sb)(R:List Int):Int→Prop
 | root (z:Int):z∈R→Sb.Live σ R z
 | left (i:Nat) (h:i<σ.slots.length):Sb.Live σ R ((i:Int)+1)→σ.slots[i].nd.left≠0→Sb.Live σ R σ.slots[i].nd.left
 | right (i:Nat) (h:i<σ.slots.length):Sb.Live σ R ((i:Int)+1)→σ.slots[i].nd.right≠0→Sb.Live σ R σ.slots[i].nd.right
def Sb.Keeps(σ:Sb)(R:List Int)(σ':Sb):Prop:=∀ (i:Nat)(h:i<σ.slots.length),σ.Live R ((i:Int)+1)→∃ h':i<σ'.slots.length,σ'.slots[i].nd={ σ.slots[i].nd with held:=σ'.slots[i].nd.held }∧σ'.slots[i].val=σ.slots[i].val
section
variable {σ σ':Sb}{R T:List Int}
theorem Sb.Keeps.refl(σ:Sb)(R:List Int):σ.Keeps R σ:=fun i h _=>⟨h,rfl,rfl⟩
theorem Sb.refs_left(i:Nat)(h:i<σ.slots.length):1≤σ.refs σ.slots[i].nd.left:=by
 refine Nat.le_trans ?_ (xq0 (fun e=>En.pts e σ.slots[i].nd.left) σ.slots i h);simp[En.pts]
theorem Sb.refs_right(i:Nat)(h:i<σ.slots.length):1≤σ.refs σ.slots[i].nd.right:=by
 refine Nat.le_trans ?_ (xq0 (fun e=>En.pts e σ.slots[i].nd.right) σ.slots i h);simp[En.pts]
theorem Sb.Keeps.busy{σ0:Sb}(hk:σ0.Keeps R σ)(h0:∀ (i:Nat)(h:i<σ0.slots.length),(σ0.slots[i].nd.left=0∨σ0.In σ0.slots[i].nd.left)∧(σ0.slots[i].nd.right=0∨σ0.In σ0.slots[i].nd.right)){z:Int}(hl:σ0.Live R z):1≤R.count z+σ.refs z:=by
 cases hl with
 | root _ hz=>have:=List.count_pos_iff.2 hz;omega
 | left i hi hl _ =>
  obtain⟨h',e,_⟩:=hk i hi hl;have h1:=Sb.refs_left (σ:=σ) i h';rw[e] at h1;have h1:1≤σ.refs σ0.slots[i].nd.left:=h1;omega
 | right i hi hl _ =>
  obtain⟨h',e,_⟩:=hk i hi hl;have h1:=Sb.refs_right (σ:=σ) i h';rw[e] at h1;have h1:1≤σ.refs σ0.slots[i].nd.right:=h1;omega
theorem Sb.Inv.used_pos(h:σ.Inv R T)(i:Nat)(hi:i<σ.slots.length)(hc:σ.slots[i].count≠0):1≤σ.used:=by
 rw[h.used];refine Nat.le_trans ?_ (xq0 En.occ σ.slots i hi);simp[En.occ,hc]
theorem Sb.refs_put(i:Nat)(hi:i<σ.slots.length)(e:En)(z:Int):(σ.put i e).refs z+σ.slots[i].pts z=σ.refs z+e.pts z:=xet (fun e=>En.pts e z) σ.slots i e hi
theorem Sb.refs_same(i:Nat)(hi:i<σ.slots.length)(e:En)(h1:e.nd.left=σ.slots[i].nd.left)(h2:e.nd.right=σ.slots[i].nd.right)(z:Int):(σ.put i e).refs z=σ.refs z:=by
 have:=Sb.refs_put i hi e z;unfold En.pts at this;rw[h1,h2] at this;omega
theorem Sb.put_at(i j:Nat)(e:En)(hj:j<(σ.put i e).slots.length):(σ.put i e).slots[j]=if i=j then e else σ.slots[j]'(by rw[xb7] at hj;exact hj):=by
 simp only[Sb.put,List.getElem_set]
theorem Sb.put_in(i:Nat)(e:En){z:Int}:(σ.put i e).In z↔σ.In z:=by unfold Sb.In;rw[xb7]
theorem Sb.Inv.stay(h:σ.Inv R T)(T':List Int)(i:Nat)(hi:i<σ.slots.length)(hc:1<σ.slots[i].count)(hT:∀ z,T.count z=T'.count z+if z=(i:Int)+1 then 1 else 0) :
  (σ.put i ⟨σ.slots[i].nd,σ.slots[i].count - 1,σ.slots[i].val⟩).Inv R T':=by
 have hr:∀ z,(σ.put i ⟨σ.slots[i].nd,σ.slots[i].count - 1,σ.slots[i].val⟩).refs z=σ.refs z:=fun z=>Sb.refs_same i hi (e:=_) (h1:=by exact rfl) (h2:=by exact rfl) z
 refine⟨Sb.put_ok h.ok i _,⟨h.nice.nd,fun n hn hlt=>?_⟩,fun j hj=>?_,fun j hj=>?_,fun j hj=>?_,?_,fun z hz=>(Sb.put_in i _).2 (h.root z hz),fun z hz=>?_,fun j hj=>?_,fun j hj=>?_⟩
 ·rw[Sb.put_at]
  rw[xb7] at hlt
  split
  ·next e=>have:=h.nice.z n hn hlt;subst e;omega
  ·exact h.nice.z n hn hlt
 ·rw[Sb.put_at,hr]
  rw[xb7] at hj;have h1:=h.count j hj;have h2:=hT ((j:Int)+1)
  split
  ·next e =>
   subst e;simp only[if_true] at h2;show σ.slots[i].count - 1=_;omega
  ·next e =>
   rw[if_neg (by omega)] at h2;omega
 ·rw[Sb.put_at]
  rw[xb7] at hj
  split
  ·next e=>subst e;exact h.held i hi
  ·exact h.held j hj
 ·rw[Sb.put_at]
  rw[xb7] at hj
  split
  ·next e =>
   subst e;intro e0;have e0:σ.slots[i].count - 1=0:=e0;omega
  ·exact h.free j hj
 ·have h1:=xet En.occ σ.slots i ⟨σ.slots[i].nd,σ.slots[i].count - 1,σ.slots[i].val⟩ hi
  have h2:=h.used;have e1:En.occ ⟨σ.slots[i].nd,σ.slots[i].count - 1,σ.slots[i].val⟩=1:=if_neg (show ¬ σ.slots[i].count - 1=0 by omega);have e2:En.occ σ.slots[i]=1:=if_neg (by omega);show σ.used=((σ.slots.set i _).map En.occ).sum;omega
 ·refine(Sb.put_in i _).2 (h.todo z ?_)
  refine List.count_pos_iff.1 ?_;have:=List.count_pos_iff.2 hz;have:=hT z;omega
 ·rw[Sb.put_at,Sb.put_in]
  rw[xb7] at hj
  split
  ·next e=>subst e;exact h.left i hi
  ·exact h.left j hj
 ·rw[Sb.put_at,Sb.put_in]
  rw[xb7] at hj
  split
  ·next e=>subst e;exact h.right i hi
  ·exact h.right j hj
theorem Sb.Keeps.put{σ0:Sb}(hk:σ0.Keeps R σ)(i:Nat)(hi:i<σ.slots.length)(c:Int):σ0.Keeps R (σ.put i ⟨σ.slots[i].nd,c,σ.slots[i].val⟩):=fun j hj hl=>by
 obtain⟨h',e1,e2⟩:=hk j hj hl;refine⟨by rw[xb7];exact h',?_⟩;rw[Sb.put_at]
 split
 ·next e=>subst e;exact⟨e1,e2⟩
 ·exact⟨e1,e2⟩
theorem Sb.Inv.go(h:σ.Inv R T)(T':List Int)(i:Nat)(hi:i<σ.slots.length)(hc:σ.slots[i].count=1)(h1:1≤T.count ((i:Int)+1))(hT:∀ z,T'.count z+(if z=(i:Int)+1 then 1 else 0)=T.count z+(if z=0 then 0 else σ.slots[i].pts z)) :
  (σ.letGo i).Inv R T':=by
 have hcz:=h.count i hi;have hR0:R.count ((i:Int)+1)=0:=by omega
 have hF0:σ.refs ((i:Int)+1)=0:=by omega
 have hT1:T.count ((i:Int)+1)=1:=by omega
 have hr:∀ z,z≠0→(σ.letGo i).refs z+σ.slots[i].pts z=σ.refs z:=fun z hz=>by
  have:=xet (fun e=>En.pts e z) σ.slots i ⟨Nd.z,0,[]⟩ hi
  have e0:En.pts ⟨Nd.z,0,[]⟩ z=0:=by
   have h3 : ¬ (0:Int)=z:=fun e=>hz e.symm
   show(if (0:Int)=z then 1 else 0)+(if (0:Int)=z then 1 else 0)=0;rw[if_neg h3]
  have h4:(σ.letGo i).refs z+σ.slots[i].pts z=σ.refs z+En.pts ⟨Nd.z,0,[]⟩ z:=this;omega
 have hlen:(σ.letGo i).slots.length=σ.slots.length:=by simp[Sb.letGo]
 have hat:∀ (j:Nat) (hj:j<(σ.letGo i).slots.length),(σ.letGo i).slots[j]=if i=j then ⟨Nd.z,0,[]⟩ else σ.slots[j]'(by rw[hlen] at hj;exact hj):=fun j hj=>by simp only[Sb.letGo,List.getElem_set]
 have hin:∀ z,(σ.letGo i).In z↔σ.In z:=fun z=>by unfold Sb.In;rw[hlen]
 have hnf:(i+1)∉σ.free:=fun hm=>by have:=h.nice.z (i+1) hm (by simpa using hi);simp only[Nat.add_sub_cancel] at this;omega
 have hu:=h.used_pos i hi (by omega);refine⟨Sb.letGo_ok h.ok i hi hu,⟨?_,fun n hn hlt=>?_⟩,fun j hj=>?_,fun j hj=>?_,fun j hj=>?_,?_,fun z hz=>(hin z).2 (h.root z hz),fun z hz=>?_,fun j hj=>?_,fun j hj=>?_⟩
 ·show(σ.free++[i+1]).Nodup
  rw[List.nodup_append];exact⟨h.nice.nd,by simp,fun a ha b hb e=>hnf (by simp at hb;subst hb;subst e;exact ha)⟩
 ·rw[hat]
  split
  ·rfl
  ·next e =>
   have hn:n∈σ.free++[i+1]:=hn;rw[List.mem_append,List.mem_singleton] at hn;rcases hn with hn | rfl
   ·exact h.nice.z n hn (by rw[hlen] at hlt;exact hlt)
   ·exact absurd (by simp) e
 ·rw[hat]
  rw[hlen] at hj;have a1:=h.count j hj;have a2:=hT ((j:Int)+1);rw[if_neg (show ¬ (j:Int)+1=0 by omega)] at a2;have a3:=hr ((j:Int)+1) (by omega)
  split
  ·next e =>
   subst e;simp only[if_true] at a2;show(0:Int)=_;omega
  ·next e =>
   rw[if_neg (show ¬ (j:Int)+1=(i:Int)+1 by omega)] at a2;omega
 ·rw[hat]
  rw[hlen] at hj
  split
  ·next e=>subst e;rw[hR0];rfl
  ·exact h.held j hj
 ·rw[hat]
  rw[hlen] at hj
  split
  ·intro _;rfl
  ·exact h.free j hj
 ·have b1:=xet En.occ σ.slots i ⟨Nd.z,0,[]⟩ hi
  have b2:=h.used;have e1:En.occ ⟨Nd.z,0,[]⟩=0:=rfl;have e2:En.occ σ.slots[i]=1:=if_neg (by omega);show σ.used - 1=((σ.slots.set i _).map En.occ).sum;omega
 ·rw[hin]
  have c1:=List.count_pos_iff.2 hz;have c2:=hT z;by_cases hz0:z=0
  ·subst hz0
   rw[if_pos rfl,if_neg (by omega)] at c2;exact h.todo 0 (List.count_pos_iff.1 (by omega))
  ·rw[if_neg hz0] at c2
   by_cases hp:σ.slots[i].pts z=0
   ·exact h.todo z (List.count_pos_iff.1 (by omega))
   ·unfold En.pts at hp
    by_cases el:σ.slots[i].nd.left=z
    ·subst el;exact(h.left i hi).resolve_left hz0
    ·by_cases er:σ.slots[i].nd.right=z
     ·subst er;exact(h.right i hi).resolve_left hz0
     ·simp[el,er] at hp
 ·rw[hat,hin]
  rw[hlen] at hj
  split
  ·exact .inl rfl
  ·exact h.left j hj
 ·rw[hat,hin]
  rw[hlen] at hj
  split
  ·exact .inl rfl
  ·exact h.right j hj
theorem Sb.Keeps.go{σ0:Sb}(hk:σ0.Keeps R σ)(h0:∀ (i:Nat)(h:i<σ0.slots.length),(σ0.slots[i].nd.left=0∨σ0.In σ0.slots[i].nd.left)∧(σ0.slots[i].nd.right=0∨σ0.In σ0.slots[i].nd.right))(h:σ.Inv R T)(i:Nat)(hi:i<σ.slots.length)(hc:σ.slots[i].count=1)(h1:1≤T.count ((i:Int)+1)) :
  σ0.Keeps R (σ.letGo i):=fun j hj hl=>by
 obtain⟨h',e1,e2⟩:=hk j hj hl;have hb:=hk.busy h0 hl;have hcz:=h.count i hi;have hne:i≠j:=fun e=>by subst e;omega
 refine⟨by simpa[Sb.letGo] using h',?_⟩;have hat:(σ.letGo i).slots[j]'(by simpa[Sb.letGo] using h')=σ.slots[j]:=by simp only[Sb.letGo,List.getElem_set];rw[if_neg hne]
 rw[hat];exact⟨e1,e2⟩
theorem Sb.Inv.part(h:σ.Inv R T)(R':List Int)(i:Nat)(hi:i<σ.slots.length)(hR:∀ z,R.count z=R'.count z+if z=(i:Int)+1 then 1 else 0) :
  (σ.put i ⟨{ σ.slots[i].nd with held:=σ.slots[i].nd.held + -1 },σ.slots[i].count,σ.slots[i].val⟩).Inv R' (((i:Int)+1)::T):=by
 have hr:∀ z,(σ.put i ⟨{ σ.slots[i].nd with held:=σ.slots[i].nd.held + -1 },σ.slots[i].count,σ.slots[i].val⟩).refs z=σ.refs z:=fun z=>Sb.refs_same i hi (e:=_) (h1:=by exact rfl) (h2:=by exact rfl) z
 have hpos:σ.slots[i].count≠0:=by
  have h1:=h.count i hi;have h2:=hR ((i:Int)+1);simp only[if_true] at h2;omega
 refine⟨Sb.put_ok h.ok i _,⟨h.nice.nd,fun n hn hlt=>?_⟩,fun j hj=>?_,fun j hj=>?_,fun j hj=>?_,?_,fun z hz=>(Sb.put_in i _).2 (h.root z ?_),fun z hz=>(Sb.put_in i _).2 ?_,fun j hj=>?_,fun j hj=>?_⟩
 ·rw[Sb.put_at]
  rw[xb7] at hlt
  split
  ·next e=>have:=h.nice.z n hn hlt;subst e;exact this
  ·exact h.nice.z n hn hlt
 ·rw[Sb.put_at,hr]
  rw[xb7] at hj;have h1:=h.count j hj;have h2:=hR ((j:Int)+1);rw[List.count_cons]
  split
  ·next e =>
   subst e;simp only[if_true,beq_self_eq_true] at h2 ⊢;show σ.slots[i].count=_;omega
  ·next e =>
   rw[if_neg (by omega)] at h2;rw[if_neg (by simp;omega)];omega
 ·rw[Sb.put_at]
  rw[xb7] at hj;have h1:=h.held j hj;have h2:=hR ((j:Int)+1)
  split
  ·next e =>
   subst e;simp only[if_true] at h2;show σ.slots[i].nd.held + -1=_;omega
  ·next e =>
   rw[if_neg (by omega)] at h2;omega
 ·rw[Sb.put_at]
  rw[xb7] at hj
  split
  ·next e=>subst e;exact fun e0=>absurd e0 hpos
  ·exact h.free j hj
 ·have h1:=xet En.occ σ.slots i ⟨{ σ.slots[i].nd with held:=σ.slots[i].nd.held + -1 },σ.slots[i].count,σ.slots[i].val⟩ hi
  have h2:=h.used;have e1:En.occ ⟨{ σ.slots[i].nd with held:=σ.slots[i].nd.held + -1 },σ.slots[i].count,σ.slots[i].val⟩=En.occ σ.slots[i]:=rfl;show σ.used=((σ.slots.set i _).map En.occ).sum;omega
 ·refine List.count_pos_iff.1 ?_
  have:=List.count_pos_iff.2 hz;have:=hR z;omega
 ·rcases List.mem_cons.1 hz with rfl | hz
  ·exact⟨i,hi,rfl⟩
  ·exact h.todo z hz
 ·rw[Sb.put_at,Sb.put_in]
  rw[xb7] at hj
  split
  ·next e=>subst e;exact h.left i hi
  ·exact h.left j hj
 ·rw[Sb.put_at,Sb.put_in]
  rw[xb7] at hj
  split
  ·next e=>subst e;exact h.right i hi
  ·exact h.right j hj
end
theorem built293(a b:Int):prog.built 293 [(0,iV a),(1,iV b)]=some #[iV a,iV b]:=by
 have h1:(prog.info? 293).map (·.zero)=some (some (.agg #[iV 0,iV 0])):=by kernel_rfl
 have h2:=one3
 cases hq:prog.info? 293 with
 | none=>simp[hq] at h1
 | some it =>
  cases hr:prog.info? 3 with
  | none=>simp[hr] at h2
  | some ie =>
   have e1:it.zero=some (.agg #[iV 0,iV 0]):=by simpa[hq] using h1
   have e2:ie.size=1:=by simpa[hr] using h2
   simp only[Program.built,underlying293,hq,hr,e1,e2];rfl
theorem xuq{w:World}{a:Act}{o:Oper}(x y:Operand)(ho:o.op=.build 293 #[(0,x),(1,y)])(p q:Int)(hx:a.eval x=iV p)(hy:a.eval y=iV q) :
  (execOp a.eval o).run prog w=.ok (.value (.agg #[iV p,iV q])) w:=by
 refine xc2 #[(0,x),(1,y)] ho _ ?_;have e:((#[(0,x),(1,y)]:Array (Nat×Operand)).map fun(i,x)=>(i,a.eval x)).toList = [(0,iV p),(1,iV q)]:=by simp[hx,hy]
 rw[e];exact built293 p q
theorem xhs{w:World}{a:Act}{o:Oper}(x y:Operand)(ho:o.op=.index 293 x y)(p q:Int)(i:Nat)(k:IntKind)(r:Int)(hx:a.eval x=.agg #[iV p,iV q])(hy:a.eval y=.int k (i:Int))(hi:i<2)(e : [p,q][i]? = some r) :
  (execOp a.eval o).run prog w=.ok (.value (iV r)) w:=by
 have h1:(#[iV p,iV q])[i]? = some (iV r):=by
  rcases i with _ | _ | i
  ·simpa using e
  ·simpa using e
  ·omega
 have h2:(i:Int)<2:=by omega
 have ha:(isAgg 3).run prog w=.ok false w:=by
  unfold isAgg;rw[Sem.run_bind,run_underlying underlying3 w];rfl
 have hz:(sizeOf 3).run prog w=.ok 1 w:=by
  have hs:=one3
  cases hq:prog.info? 3 with
  | none=>simp[hq] at hs
  | some j =>
   simp[hq] at hs;simp[sizeOf,typeInfo,hq,hs]
 have hp:(part 3 #[iV p,iV q] i).run prog w=.ok (iV r) w:=by
  unfold part;rw[Sem.run_bind,ha];simp[h1]
 have hr:(Instr.index 293 (.agg #[iV p,iV q]) (.int k (i:Int))).run prog w=.ok (iV r) w:=by
  simp[Instr.index,run_underlying underlying293,asIntOf,h2,hz,hp];intro h;omega
 unfold execOp;simp only[ho,hx,hy,Sem.run_bind,hr,Result.andThen_ok,Sem.run_pure]
def xdc(l:List Int):List Value:=l.map (Value.int .i64)
theorem xin(l:List Int):(xdc l).length=l.length:=by simp[xdc]
theorem xea(l m:List Int):xdc (l++m)=xdc l++xdc m:=by simp[xdc]
theorem Gw.short{E z n m:Nat}{G:BL}{v:Sv}{xs ys:List Value}(h:Gw E z G v n (xs++ys))(hx:xs.length=m*z)(hm:m≤n)(h0:0<n):Gw E z G ⟨v.A,m,v.c⟩ m xs:=by
 obtain⟨hl,⟨_,_,rfl⟩ | ⟨g,cap,tl,rfl,rfl,h1,h2,h3⟩⟩:=h
 ·omega
 ·exact⟨hx,.inr ⟨g,cap,ys++tl,by rw[List.append_assoc],rfl,by omega,h2,by rw[← List.append_assoc];exact h3⟩⟩
theorem Gw.some{E z n:Nat}{G:BL}{v:Sv}{xs:List Value}(h:Gw E z G v n xs)(h0:0<n):∃ g tl cap,G = [(g,E,xs++tl)]∧v=⟨aS g,n,cap⟩∧n≤cap:=by
 obtain⟨hl,⟨_,_,rfl⟩ | ⟨g,cap,tl,rfl,rfl,h1,h2,h3⟩⟩:=h
 ·omega
 ·exact⟨g,tl,cap,rfl,rfl,h1⟩
theorem Sb.refs_le(σ:Sb)(z:Int):σ.refs z≤2*σ.slots.length:=by
 unfold Sb.refs
 induction σ.slots with
 | nil=>simp
 | cons e l ih =>
  simp only[qk,List.sum_cons,qr];have:e.pts z≤2:=by unfold En.pts;split<;>split<;>omega
  omega
theorem Sb.Inv.count_le{σ:Sb}{R T:List Int}(h:σ.Inv R T)(i:Nat)(hi:i<σ.slots.length):σ.slots[i].count≤((R.length+T.length+2*σ.slots.length:Nat):Int):=by
 have h1:=h.count i hi;have h2:=σ.refs_le ((i:Int)+1);have h3:=List.count_le_length (a:=(i:Int)+1) (l:=R);have h4:=List.count_le_length (a:=(i:Int)+1) (l:=T);omega
theorem Sb.Inv.held_le{σ:Sb}{R T:List Int}(h:σ.Inv R T)(i:Nat)(hi:i<σ.slots.length):0≤σ.slots[i].nd.held∧σ.slots[i].nd.held≤(R.length:Int):=by
 have h1:=h.held i hi;have h3:=List.count_le_length (a:=(i:Int)+1) (l:=R);omega
def xmb:Value→Nat
 | .slice _ n _=>n
 | _=>0
def Drpd(D:Nat→Prop)(w:World)(gs g:Nat)(σ:Sb)(R:List Int)(e:Ending)(w':World):Prop :=
 ∃ (m:Int)(D':Nat→Prop)(vs' vf':Sv)(σ':Sb),e=.returned (.tuple #[iV m,iV 0])∧StP D' w' gs g σ' vs' vf'∧Stp D w D' w'∧σ'.Inv R []∧σ.Keeps R σ'∧σ'.used≤σ.used∧σ'.room=σ.room∧σ'.slots.length=σ.slots.length
def DrL(D:Nat→Prop)(w0:World)(gs g:Nat)(σ:Sb)(R:List Int)(a b:Value)(wr:World):Prop :=
 ∃ (f:Nat)(sv:Sv)(T:List Int)(G:BL)(D1:Nat→Prop)(vs1 vf1:Sv)(σ1:Sb),a=.int .i64 (f:Int)∧b=sv.v∧f+σ1.used=σ.used∧T.length≤1+f∧StP D1 wr gs g σ1 vs1 vf1∧Stp D w0 D1 wr∧σ1.Inv R T∧σ.Keeps R σ1 ∧
  σ1.room=σ.room∧σ1.slots.length=σ.slots.length∧Gw 3 1 G sv T.length (xdc T)∧Loc wr (Rest wr (G++[])) (G++[]) wr∧(∀ k,D1 k→Rest wr (G++[]) k)∧(∀ y∈G,w0.heap.size≤y.1)
theorem Stp.after{D D1:Nat→Prop}{w0 wr w:World}{G L:BL}(h:Stp D w0 D1 wr)(H:Loc wr (Rest wr G) L w)(hG:∀ y∈G,w0.heap.size≤y.1):Stp D w0 D1 w :=
 ⟨h.new,h.old,⟨H.fr.os.trans h.fr.os,H.fr.tape.trans h.fr.tape,H.fr.output.trans h.fr.output,Nat.le_trans h.fr.size H.fr.size,fun k hk hn =>
  (H.fr.block k (Nat.lt_of_lt_of_le hk h.fr.size) (fun n=>n ⟨Nat.lt_of_lt_of_le hk h.fr.size,fun y hy e=>by have:=hG y hy;omega⟩)).trans (h.fr.block k hk hn)⟩⟩
theorem Sb.Keeps.held{σ:Sb}{R:List Int}(i:Nat)(hi:i<σ.slots.length)(b:Int):σ.Keeps R (σ.put i ⟨{ σ.slots[i].nd with held:=b },σ.slots[i].count,σ.slots[i].val⟩):=fun j hj hl=>by
 refine⟨by rw[xb7];exact hj,?_⟩;rw[Sb.put_at]
 split
 ·next e=>subst e;exact⟨rfl,rfl⟩
 ·exact⟨rfl,rfl⟩
end Go.Proofs.YtkjjdgnkelchfaaGreat
