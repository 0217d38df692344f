import Derived.Test.YtkjjdgnkelchfaaGreatPNU21
set_option linter.unusedSimpArgs false
set_option linter.unusedVariables false
set_option maxRecDepth 100000
set_option maxHeartbeats 16000000
namespace Go.Proofs.YtkjjdgnkelchfaaGreat
open Go Go.RowKit Go.Proofs.Tryz
def plM(ks:List D32):Nat→List Brv→Nat→Nat→D32→Nat→Option (D32×List Brv)
 | _,[],_,_,_,_=>none
 | n,b::rest,lo,hi,top,d =>
  if xcg b=false then none
  else if b.kind=0 then some (tagE,rest)
  else if b.kind=3 then (if lo<hi then none else some (b.dig,rest))
  else if b.kind=1 then (if lo<hi∧xdz b.key.l top.l d=true then some (tagL b.key b.val,rest) else none)
  else if ¬ lo<hi∨256≤d then none
  else match n with
   | 0=>none
   | n+1=>match plM ks n rest lo (lo+xbd ((ks.drop lo).take (hi - lo)) d) top (d+1) with
    | none=>none
    | some (l,r1)=>match plM ks n r1 (lo+xbd ((ks.drop lo).take (hi - lo)) d) hi (xf3 top d) (d+1) with
     | none=>none
     | some (r,r2)=>some (tagI l r,r2)
theorem xrn{b:Brv}(h:xcg b=true)(h0:b.kind≠0)(h3:b.kind≠3)(h1:b.kind≠1):b.kind=2:=by
 unfold xcg at h;by_cases h2:b.kind=2
 ·exact h2
 ·rw[if_neg (by omega),if_neg h1,if_neg h3] at h
  cases h
structure BrD (D:Nat→Prop)(W:World)(sv:Sv)(bs:List Brv):Prop where
 s:BrS W sv bs
 d:bs≠[]→∀ ad,sv.A=some ad→D ad.block
structure KyD (D:Nat→Prop)(W:World)(A:Option Addr)(n c:Nat)(ks:List D32):Prop where
 s:KyS W A n c ks
 d:ks≠[]→∀ ad,A=some ad→D ad.block
section
variable {W0 w:World}{D:Nat→Prop}{L:BL}{sv:Sv}{bs:List Brv}{A:Option Addr}{n c:Nat}{ks:List D32}
theorem BrD.at(h:BrD D W0 sv bs)(H:Loc W0 D L w):BrS w sv bs:=⟨h.s.rd.keepE H (fun hne ad e=>h.d (by rintro rfl;exact hne rfl) ad e),h.s.len,h.s.cap,h.s.k⟩
theorem KyD.at(h:KyD D W0 A n c ks)(H:Loc W0 D L w):KyS w A n c ks:=⟨h.s.rd.keepE H (fun hne ad e=>h.d (by rintro rfl;exact hne rfl) ad e),h.s.len,h.s.cap⟩
theorem BrD.tail{sv:Sv}{b:Brv}{bs:List Brv}(h:BrD D W0 sv (b::bs)):BrD D W0 ⟨cutA sv.A sv.c 1 97,sv.n - 1,sv.c - 1⟩ bs:=by
 have hl:=h.s.len;have hc:=h.s.cap;simp only[qr] at hl;refine⟨⟨?_,by show bs.length=sv.n - 1;omega,by show sv.n - 1≤sv.c - 1;omega,fun x hx=>h.s.k x (List.mem_cons_of_mem _ hx)⟩,fun hne ad e=>?_⟩
 ·have h1:=h.s.rd.cutA (c:=sv.c) (lo:=1) (z:=97) (by rw[xaw Brv.len,List.length_cons];exact Nat.mul_le_mul_right _ (by omega)) (bs.length*97)
  have e:(((b::bs).flatMap Brv.cells).drop (1*97)).take (bs.length*97)=bs.flatMap Brv.cells:=by
   rw[List.flatMap_cons];have e1:1*97=b.cells.length:=by rw[Brv.len]
   rw[e1,List.drop_left,List.take_of_length_le (by rw[xaw Brv.len];exact Nat.le_refl _)]
  rw[e] at h1;exact h1
 ·have e':cutA sv.A sv.c 1 97=some ad:=e
  unfold cutA at e'
  split at e'
  ·exact h.d (by simp) ad e'
  ·cases hA:sv.A with
   | none=>rw[hA] at e';cases e'
   | some a0 =>
    rw[hA] at e';simp only[Option.map_some,Option.some.injEq] at e';have hb:ad.block=a0.block:=by rw[← e'];unfold Addr.add;split<;>rfl
    rw[hb];exact h.d (by simp) a0 hA
end
abbrev RX(gr gw:Nat)(rest ways:Sv)(xs:List Prv)(Gs X:BL):BL:=(gr,199,rdrC rest tagE ways)::(gw,34,xs.flatMap Prv.cells)::(Gs++X)
section
variable {W0 w:World}{D:Nat→Prop}{a b:Nat×Nat×List Value}{G X:BL}
theorem Loc.inX(locs:BL)(H:Loc W0 D (locs++(a::b::(G++X))) w):Loc W0 D (a::b::(G++(X++locs))) w:=H.perm (by
 have:=(List.perm_append_comm (l₁:=a::b::(G++X)) (l₂:=locs))
 simpa[List.append_assoc] using this)
theorem Loc.outX(locs:BL)(H:Loc W0 D (a::b::(G++(X++locs))) w):Loc W0 D (locs++(a::b::(G++X))) w:=H.perm (by
 have:=(List.perm_append_comm (l₁:=locs) (l₂:=a::b::(G++X)))
 simpa[List.append_assoc] using this)
theorem Loc.inY(locs:BL)(H:Loc W0 D (locs++(a::b::(G++X))) w):Loc W0 D ((locs++X)++(a::b::(G++[]))) w:=H.perm (by
 rw[List.append_assoc,List.append_nil];refine List.Perm.append_left _ ?_;have:=(List.perm_append_comm (l₁:=X) (l₂:=a::b::G))
 simpa using this)
theorem Loc.outY(locs:BL)(H:Loc W0 D ((locs++X)++(a::b::(G++[]))) w):Loc W0 D (locs++(a::b::(G++X))) w:=H.perm (by
 rw[List.append_assoc,List.append_nil];refine List.Perm.append_left _ ?_;have:=(List.perm_append_comm (l₁:=a::b::G) (l₂:=X))
 simpa using this)
end
def PlO(W0:World)(D:Nat→Prop)(X:BL)(gr gw:Nat)(ways:Sv)(n M R:Nat)(q:Option (D32×List Brv))(e:Ending)(w':World):Prop :=
 ∃ (h:D32)(ok:Bool)(rest':Sv)(bs':List Brv)(xs':List Prv)(Gs':BL),e=.returned (.tuple #[h.a,.bool ok])∧BrD D W0 rest' bs'∧bs'.length≤R∧Wys (M+2*(R - bs'.length)) Gs' xs'∧xs'.length=n ∧
  Loc W0 D (RX gr gw rest' ways xs' Gs' X) w'∧((ok=true∧q=some (h,bs'))∨(ok=false∧q=none))
section
variable {w w':World}
theorem xk9(W0:World)(D:Nat→Prop)(A:Option Addr)(n c:Nat)(ks:List D32)(hKY:KyD D W0 A n c ks)(gr gw:Nat)(hn:n≤1000)(N:Nat)(d:Nat)(X:BL)(rest:Sv)(xs:List Prv)(Gs:BL)(M lo hi:Nat)(top:D32)(w:World)(hB:BrD D W0 rest [])(hW:Wys M Gs xs)(hxl:xs.length=n)
  (H:Loc W0 D (RX gr gw rest ⟨aS gw,n,n⟩ xs Gs X) w) :
  Calls prog 109 #[pG gr,.slice A n c,iV lo,iV hi,top.a,iV d] w (PlO W0 D X gr gw ⟨aS gw,n,n⟩ n M 0 (plM ks N [] lo hi top d)):=by
 have HXL:=hZ hxl;have HRN:=hZ hB.s.len;have k1:((rest.n:Int)==0)=true:=by rw[← HRN.out];rfl
 have hq:plM ks N [] lo hi top d=none:=by cases N<;>rfl
 rw[hq];clear hq hxl;have HL:=H;clear H;go_enter func109,ntmps109;go_upto_region 0 with fail;refine Xiu ?_;clear HL;intro g10 g12 w HL;go_upto_region 1 with fail;refine Xix ?_;refine Xg6 ?_;refine Xak ?_;refine no_implicit_lambda% (X2d ?_);refine X27 ?_;go_upto_region 2 with fail;refine Xib ?_;refine Xia ?_;clear HL;intro w HL;go_wp2_with fail;refine Xiy ?_;exact⟨D32.z,false,rest,[],xs,Gs,rfl,hB,Nat.zero_le _,hW.mono (by omega),HXL.out,HL.drop _ (sA [_,_] _),.inr ⟨rfl,rfl⟩⟩
theorem plM_cons(ks:List D32)(N:Nat)(b:Brv)(bs:List Brv)(lo hi:Nat)(top:D32)(d:Nat) :
  (xcg b=false→plM ks N (b::bs) lo hi top d=none) ∧
  (xcg b=true→b.kind=0→plM ks N (b::bs) lo hi top d=some (tagE,bs)) ∧
  (xcg b=true→b.kind=3→plM ks N (b::bs) lo hi top d=if lo<hi then none else some (b.dig,bs)) ∧
  (xcg b=true→b.kind=1→plM ks N (b::bs) lo hi top d=if lo<hi∧xdz b.key.l top.l d=true then some (tagL b.key b.val,bs) else none) ∧
  (xcg b=true→b.kind=2→(¬ lo<hi∨256≤d)→plM ks N (b::bs) lo hi top d=none):=by
 refine⟨fun h=>?_,fun h k=>?_,fun h k=>?_,fun h k=>?_,fun h k k2=>?_⟩<;>unfold plM
 ·rw[if_pos h]
 ·rw[if_neg (by rw[h];decide),if_pos k]
 ·rw[if_neg (by rw[h];decide),if_neg (by omega),if_pos k]
 ·rw[if_neg (by rw[h];decide),if_neg (by omega),if_neg (by omega),if_pos k]
 ·rw[if_neg (by rw[h];decide),if_neg (by omega),if_neg (by omega),if_neg (by omega),if_pos k2]
theorem xla(W0:World)(D:Nat→Prop)(A:Option Addr)(n c:Nat)(ks:List D32)(hKY:KyD D W0 A n c ks)(gr gw:Nat)(hn:n≤1000)(N:Nat)(d:Nat)(X:BL)(rest:Sv)(b:Brv)(bs:List Brv)(xs:List Prv)(Gs:BL)(M lo hi:Nat)(top:D32)(w:World)(hd:d≤256)(hB:BrD D W0 rest (b::bs))(hW:Wys M Gs xs)(hxl:xs.length=n)(hlh:lo≤hi∧hi≤n)(hM:M+2*(b::bs).length≤200000)
  (H:Loc W0 D (RX gr gw rest ⟨aS gw,n,n⟩ xs Gs X) w) (hflat:xcg b=false∨b.kind≠2∨¬ lo<hi∨256≤d) :
  Calls prog 109 #[pG gr,.slice A n c,iV lo,iV hi,top.a,iV d] w (PlO W0 D X gr gw ⟨aS gw,n,n⟩ n M (b::bs).length (plM ks N (b::bs) lo hi top d)):=by
 have HXL:=hZ hxl;have hr0:1≤rest.n:=by have:=hB.s.len;simp only[qr] at this;omega
 have k1:((rest.n:Int)==0)=false:=nB (by omega);obtain⟨ad,hA,_⟩:=hB.s.at_ 0 (by simp);have HSV:Hid (rest.v=.slice (some ad) rest.n rest.c):=hZ (by unfold Sv.v;rw[hA])
 have hbrd:∀ (L:BL)(W:World),Loc W0 D L W→Rd W (some (ad.add (0*97))) b.cells:=by
  intro L W hW;obtain⟨ad',e',h'⟩:=(hB.at hW).at_ 0 (by simp);rw[hA] at e';cases e';exact h'
 obtain⟨hq0,hq1,hq2,hq3,hq4⟩:=plM_cons ks N b bs lo hi top d;generalize plM ks N (b::bs) lo hi top d=q at hq0 hq1 hq2 hq3 hq4 ⊢;have CC:=fun u=>hZ (xjd b u)
 clear hxl hA;have HL:=H;clear H
 cases hcl:xcg b with
 | false =>
  rw[hcl] at CC;have hq:=hq0 hcl;clear hq0 hq1 hq2 hq3 hq4 hcl hflat;have HQ:=hZ hq;clear hq;go_enter func109,ntmps109;go_upto_region 0 with fail;refine Xiu ?_;clear HL;intro g10 g12 w HL;go_upto_region 1 with fail;refine Xj0 ?_;intro w HL;refine xac rfl _ (xgs (b:=true) _ rfl false rfl rfl) ?_;refine X28 ?_;go_upto_region 2 with fail;refine Xib ?_;refine Xia ?_;clear HL;intro w HL;go_wp2_with fail;refine Xiy ?_;exact⟨D32.z,false,rest,b::bs,xs,Gs,rfl,hB,Nat.le_refl _,hW.mono (by omega),HXL.out,HL.drop _ (sA [_,_] _),.inr ⟨rfl,HQ.out⟩⟩
 | true =>
  rw[hcl] at CC;by_cases h0:b.kind=0
  ·have hq:=hq1 hcl h0
   have k7:((b.kind:Int)==0)=true:=by rw[h0];rfl
   clear hq0 hq1 hq2 hq3 hq4 hcl hflat h0;have HQ:=hZ hq;clear hq;have k5:decide ((lo:Int)<(hi:Int))=decide ((lo:Int)<(hi:Int)):=rfl;go_enter func109,ntmps109;go_upto_region 0 with fail;refine Xiu ?_;clear HL;intro g10 g12 w HL;go_upto_region 1 with fail;refine Xj1 ?_;intro w HL;go_upto_region 3 with fail;refine Xj2 ?_;clear HL;intro g14 w HL;go_upto_region 4 with fail;refine Xj3 ?_;refine xa3 sc42 rfl _ _ rfl HL 3 gr 0 199 _ (rdrC ⟨cutA rest.A rest.c 1 97,rest.n - 1,rest.c - 1⟩ tagE ⟨aS gw,n,n⟩) (Sv.v ⟨cutA rest.A rest.c 1 97,rest.n - 1,rest.c - 1⟩) rfl rfl rfl rfl (by rw[xem];omega) (xe9 _ _ _ _) ?_;refine Xj4 ?_;clear HL;intro w HL HT;generalize (⟨cutA rest.A rest.c 1 97,rest.n - 1,rest.c - 1⟩:Sv)=rest1 at HL HT;go_upto_region 5 with fail;refine X19 ?_
   refine xaa rfl _ (xbq (b:=decide ((lo:Int)<(hi:Int))) _ _ rfl _ _ rfl rfl k5) ?_;refine X1a ?_;go_upto_region 6 with fail;refine Xg1 ?_;go_upto_region 7 with fail;refine Xt ?_;refine xaa rfl _ (xao (b:=true) _ _ rfl _ _ rfl rfl k7) ?_;refine X1a ?_;go_upto_region 8 with fail;refine X14 ?_;refine xaa rfl _ (xaf fa199_1 _ rfl _ rfl) ?_;refine X6 ?_;refine xaa rfl _ (xav ag23 HL _ rfl _ _ rfl _ _ _ (.tail _ (.tail _ (.tail _ (.head _)))) (rdrC_1 _ _ _) (D32.cl _)) ?_;refine X6 ?_;refine Xj5 ?_;clear HL;intro w HL;go_wp2_with fail;refine Xj6 ?_;exact⟨tagE,true,rest1,bs,xs,Gs,rfl,HT,by simp,hW.mono (by omega),HXL.out,HL.drop _ (sA [_,_,_] _),.inl ⟨rfl,HQ.out⟩⟩
  have k7:((b.kind:Int)==0)=false:=nB (by omega);by_cases h3:b.kind=3
  ·have hq:=hq2 hcl h3
   have k9:((b.kind:Int)==3)=true:=by rw[h3];rfl
   clear hq0 hq1 hq2 hq3 hq4 hcl hflat h0 h3;by_cases hop:lo<hi
   ·rw[if_pos hop] at hq
    have HQ:=hZ hq;have k5:decide ((lo:Int)<(hi:Int))=true:=by simp;omega
    clear hq hop;go_enter func109,ntmps109;go_upto_region 0 with fail;refine Xiu ?_;clear HL;intro g10 g12 w HL;go_upto_region 1 with fail;refine Xj1 ?_;intro w HL;go_upto_region 3 with fail;refine Xj2 ?_;clear HL;intro g14 w HL;go_upto_region 4 with fail;refine Xj3 ?_;refine xa3 sc42 rfl _ _ rfl HL 3 gr 0 199 _ (rdrC ⟨cutA rest.A rest.c 1 97,rest.n - 1,rest.c - 1⟩ tagE ⟨aS gw,n,n⟩) (Sv.v ⟨cutA rest.A rest.c 1 97,rest.n - 1,rest.c - 1⟩) rfl rfl rfl rfl (by rw[xem];omega) (xe9 _ _ _ _) ?_;refine Xj4 ?_;clear HL;intro w HL HT;generalize (⟨cutA rest.A rest.c 1 97,rest.n - 1,rest.c - 1⟩:Sv)=rest1 at HL HT;go_upto_region 5 with fail;refine X19 ?_;refine Xj7 ?_;refine X1a ?_;go_upto_region 6 with fail;refine Xg1 ?_;go_upto_region 7 with fail;refine Xi5 ?_;go_upto_region 9 with fail;refine Xt ?_;refine Xi6 ?_;refine X1a ?_
    go_upto_region 10 with fail;refine Xt ?_;refine Xg7 ?_;refine X6 ?_;refine Xg8 ?_;refine X15 ?_;refine Xj8 ?_;refine X6 ?_;refine Xj5 ?_;clear HL;intro w HL;go_wp2_with fail;refine Xj6 ?_;exact⟨b.dig,false,rest1,bs,xs,Gs,rfl,HT,by simp,hW.mono (by omega),HXL.out,HL.drop _ (sA [_,_,_] _),.inr ⟨rfl,HQ.out⟩⟩
   ·rw[if_neg hop] at hq
    have HQ:=hZ hq;have k5:decide ((lo:Int)<(hi:Int))=false:=by simp;omega
    clear hq hop;go_enter func109,ntmps109;go_upto_region 0 with fail;refine Xiu ?_;clear HL;intro g10 g12 w HL;go_upto_region 1 with fail;refine Xj1 ?_;intro w HL;go_upto_region 3 with fail;refine Xj2 ?_;clear HL;intro g14 w HL;go_upto_region 4 with fail;refine Xj3 ?_;refine xa3 sc42 rfl _ _ rfl HL 3 gr 0 199 _ (rdrC ⟨cutA rest.A rest.c 1 97,rest.n - 1,rest.c - 1⟩ tagE ⟨aS gw,n,n⟩) (Sv.v ⟨cutA rest.A rest.c 1 97,rest.n - 1,rest.c - 1⟩) rfl rfl rfl rfl (by rw[xem];omega) (xe9 _ _ _ _) ?_;refine Xj4 ?_;clear HL;intro w HL HT;generalize (⟨cutA rest.A rest.c 1 97,rest.n - 1,rest.c - 1⟩:Sv)=rest1 at HL HT;go_upto_region 5 with fail;refine X19 ?_;refine Xj9 ?_;refine X1a ?_;go_upto_region 6 with fail;refine Xg1 ?_;go_upto_region 7 with fail;refine Xi5 ?_;go_upto_region 9 with fail;refine Xt ?_;refine Xi6 ?_;refine X1a ?_
    go_upto_region 10 with fail;refine Xt ?_;refine Xg7 ?_;refine X6 ?_;refine Xg8 ?_;refine X15 ?_;refine Xja ?_;refine X6 ?_;refine Xj5 ?_;clear HL;intro w HL;go_wp2_with fail;refine Xj6 ?_;exact⟨b.dig,true,rest1,bs,xs,Gs,rfl,HT,by simp,hW.mono (by omega),HXL.out,HL.drop _ (sA [_,_,_] _),.inl ⟨rfl,HQ.out⟩⟩
  have k9:((b.kind:Int)==3)=false:=nB (by omega);by_cases h1:b.kind=1
  ·have hq:=hq3 hcl h1
   have k11:((b.kind:Int)==1)=true:=by rw[h1];rfl
   clear hq0 hq1 hq2 hq3 hq4 hcl hflat h0 h3 h1;by_cases hop:lo<hi
   ·obtain⟨un,hun⟩:∃ un,xdz b.key.l top.l (d:Int)=un:=⟨_,rfl⟩
    have CU:=fun u=>hZ (under_d u b.key top (d:Int) (by omega))
    rw[hun] at hq;simp only[hun] at CU;have k5:decide ((lo:Int)<(hi:Int))=true:=by simp;omega
    have HQ:=hZ hq;have HOP:=hZ hop;clear hq hop hun;go_enter func109,ntmps109;go_upto_region 0 with fail;refine Xiu ?_;clear HL;intro g10 g12 w HL;go_upto_region 1 with fail;refine Xj1 ?_;intro w HL;go_upto_region 3 with fail;refine Xj2 ?_;clear HL;intro g14 w HL;go_upto_region 4 with fail;refine Xj3 ?_;refine xa3 sc42 rfl _ _ rfl HL 3 gr 0 199 _ (rdrC ⟨cutA rest.A rest.c 1 97,rest.n - 1,rest.c - 1⟩ tagE ⟨aS gw,n,n⟩) (Sv.v ⟨cutA rest.A rest.c 1 97,rest.n - 1,rest.c - 1⟩) rfl rfl rfl rfl (by rw[xem];omega) (xe9 _ _ _ _) ?_;refine Xj4 ?_;clear HL;intro w HL HT;generalize (⟨cutA rest.A rest.c 1 97,rest.n - 1,rest.c - 1⟩:Sv)=rest1 at HL HT;go_upto_region 5 with fail;refine X19 ?_;refine Xj7 ?_;refine X1a ?_;go_upto_region 6 with fail;refine Xg1 ?_;go_upto_region 7 with fail;refine Xi5 ?_;go_upto_region 9 with fail;refine Xt ?_
    refine Xi7 ?_;go_upto_region 11 with fail;refine Xt ?_;refine Xjb ?_;go_upto_region 12 with fail;refine X12 ?_;refine Xg2 ?_;refine Xee ?_;intro K hK;refine xad cf167 rfl _ rfl ?_;refine X1w ?_;refine Xjc ?_;rintro e w ⟨ys,Hs,rfl,hW',hyl,R⟩;have HM:=Loc.outY [_,_,_] (Loc.merge (Loc.inY [_,_,_] HL) R);clear R HL hW;have HL:=HM;clear HM;simp only[qm,qn] at HL;refine X20 ?_;clear hK K;go_upto_region 13 with fail;refine Xt ?_;refine xaa rfl _ (xaf xjo _ rfl _ rfl) ?_;refine X6 ?_;refine Xjd ?_;refine X6 ?_;refine xaa rfl _ (xaf xjp _ rfl _ rfl) ?_;refine X6 ?_;refine Xje ?_;refine X50 ?_;intro K hK;refine X5t ?_;refine X1w ?_;(with_reducible refine(xig _ b.key b.val).mono ?_);refine X45 ?_;clear hK K;intro w HL;refine Xd5 ?_;refine xac rfl _ (xaf xjo _ rfl _ rfl) ?_
    refine X6 ?_;refine xac rfl _ (xav ag24 HL _ rfl _ _ rfl _ _ _ (.head _) (Brv.g_key _) (D32.cl _)) ?_;refine X6 ?_;refine xac rfl _ (xbn ag24 HL _ rfl _ rfl _ _ (.tail _ (.tail _ (.head _))) (D32.cl _)) ?_;refine X5j ?_;intro K hK;refine xad cf105 rfl _ rfl ?_;refine X1w ?_;(with_reducible refine((CU _).out).mono ?_);refine X4y ?_;clear hK K;intro w HL;refine X1k ?_;refine X6 ?_;refine Xj5 ?_;clear HL;intro w HL;go_wp2_with fail;refine Xj6 ?_;refine⟨tagL b.key b.val,un,rest1,bs,ys,Hs,rfl,HT,by simp,hW'.mono (by omega),hyl,HL.drop _ (sA [_,_,_] _),?_⟩;have hq:=HQ.out
    cases un with
    | true=>rw[if_pos ⟨HOP.out,rfl⟩] at hq;exact .inl ⟨rfl,hq⟩
    | false=>rw[if_neg (by rintro⟨_,h⟩;cases h)] at hq;exact .inr ⟨rfl,hq⟩
   ·have k5:decide ((lo:Int)<(hi:Int))=false:=by simp;omega
    rw[if_neg (fun e=>hop e.1)] at hq;have HQ:=hZ hq;clear hq hop;go_enter func109,ntmps109;go_upto_region 0 with fail;refine Xiu ?_;clear HL;intro g10 g12 w HL;go_upto_region 1 with fail;refine Xj1 ?_;intro w HL;go_upto_region 3 with fail;refine Xj2 ?_;clear HL;intro g14 w HL;go_upto_region 4 with fail;refine Xj3 ?_;refine xa3 sc42 rfl _ _ rfl HL 3 gr 0 199 _ (rdrC ⟨cutA rest.A rest.c 1 97,rest.n - 1,rest.c - 1⟩ tagE ⟨aS gw,n,n⟩) (Sv.v ⟨cutA rest.A rest.c 1 97,rest.n - 1,rest.c - 1⟩) rfl rfl rfl rfl (by rw[xem];omega) (xe9 _ _ _ _) ?_;refine Xj4 ?_;clear HL;intro w HL HT;generalize (⟨cutA rest.A rest.c 1 97,rest.n - 1,rest.c - 1⟩:Sv)=rest1 at HL HT;go_upto_region 5 with fail;refine X19 ?_;refine Xj9 ?_;refine X1a ?_;go_upto_region 6 with fail;refine Xg1 ?_;go_upto_region 7 with fail;refine Xi5 ?_;go_upto_region 9 with fail
    refine Xt ?_;refine Xi7 ?_;go_upto_region 11 with fail;refine Xt ?_;refine Xjb ?_;go_upto_region 12 with fail;refine X12 ?_;refine Xg2 ?_;refine Xee ?_;intro K hK;refine xad cf167 rfl _ rfl ?_;refine X1w ?_;refine Xjc ?_;rintro e w ⟨ys,Hs,rfl,hW',hyl,R⟩;have HM:=Loc.outY [_,_,_] (Loc.merge (Loc.inY [_,_,_] HL) R);clear R HL hW;have HL:=HM;clear HM;simp only[qm,qn] at HL;refine X20 ?_;clear hK K;go_upto_region 13 with fail;refine Xt ?_;refine xaa rfl _ (xaf xjo _ rfl _ rfl) ?_;refine X6 ?_;refine Xjd ?_;refine X6 ?_;refine xaa rfl _ (xaf xjp _ rfl _ rfl) ?_;refine X6 ?_;refine Xje ?_;refine X50 ?_;intro K hK;refine X5t ?_;refine X1w ?_;(with_reducible refine(xig _ b.key b.val).mono ?_);refine X45 ?_;clear hK K;intro w HL;refine Xd5 ?_;refine no_implicit_lambda% (X2d ?_)
    refine no_implicit_lambda% (X2b ?_);refine X1k ?_;refine X6 ?_;refine Xj5 ?_;clear HL;intro w HL;go_wp2_with fail;refine Xj6 ?_;exact⟨tagL b.key b.val,false,rest1,bs,ys,Hs,rfl,HT,by simp,hW'.mono (by omega),hyl,HL.drop _ (sA [_,_,_] _),.inr ⟨rfl,HQ.out⟩⟩
  have k11:((b.kind:Int)==1)=false:=nB (by omega);have h2:=xrn hcl h0 h3 h1
  have hfl : ¬ lo<hi∨256≤d:=by
   rcases hflat with h | h | h
   ·rw[hcl] at h;cases h
   ·exact absurd h2 h
   ·exact h
  have hq:=hq4 hcl h2 hfl;clear hq0 hq1 hq2 hq3 hq4 hcl hflat h0 h3 h1 h2;have HQ:=hZ hq;clear hq;by_cases hop:lo<hi
  ·have hd2:d=256:=by omega
   have k5:decide ((lo:Int)<(hi:Int))=true:=by simp;omega
   have k14:decide ((256:Int)≤(d:Int))=true:=by simp;omega
   clear hfl hop hd2;go_enter func109,ntmps109;go_upto_region 0 with fail;refine Xiu ?_;clear HL;intro g10 g12 w HL;go_upto_region 1 with fail;refine Xj1 ?_;intro w HL;go_upto_region 3 with fail;refine Xj2 ?_;clear HL;intro g14 w HL;go_upto_region 4 with fail;refine Xj3 ?_;refine xa3 sc42 rfl _ _ rfl HL 3 gr 0 199 _ (rdrC ⟨cutA rest.A rest.c 1 97,rest.n - 1,rest.c - 1⟩ tagE ⟨aS gw,n,n⟩) (Sv.v ⟨cutA rest.A rest.c 1 97,rest.n - 1,rest.c - 1⟩) rfl rfl rfl rfl (by rw[xem];omega) (xe9 _ _ _ _) ?_;refine Xj4 ?_;clear HL;intro w HL HT;generalize (⟨cutA rest.A rest.c 1 97,rest.n - 1,rest.c - 1⟩:Sv)=rest1 at HL HT;go_upto_region 5 with fail;refine X19 ?_;refine Xj7 ?_;refine X1a ?_;go_upto_region 6 with fail;refine Xg1 ?_;go_upto_region 7 with fail;refine Xi5 ?_;go_upto_region 9 with fail;refine Xt ?_;refine Xi7 ?_
   go_upto_region 11 with fail;refine Xt ?_;refine Xjf ?_;refine X1a ?_;go_upto_region 14 with fail;refine X12 ?_;refine Xj8 ?_;refine X24 ?_;refine xac rfl _ (xce _ _ rfl _ _ rfl rfl k14) ?_;refine X28 ?_;go_upto_region 15 with fail;refine Xib ?_;refine X6 ?_;refine Xj5 ?_;clear HL;intro w HL;go_wp2_with fail;refine Xj6 ?_;exact⟨D32.z,false,rest1,bs,xs,Gs,rfl,HT,by simp,hW.mono (by omega),HXL.out,HL.drop _ (sA [_,_,_] _),.inr ⟨rfl,HQ.out⟩⟩
  ·have k5:decide ((lo:Int)<(hi:Int))=false:=by simp;omega
   clear hfl hop;go_enter func109,ntmps109;go_upto_region 0 with fail;refine Xiu ?_;clear HL;intro g10 g12 w HL;go_upto_region 1 with fail;refine Xj1 ?_;intro w HL;go_upto_region 3 with fail;refine Xj2 ?_;clear HL;intro g14 w HL;go_upto_region 4 with fail;refine Xj3 ?_;refine xa3 sc42 rfl _ _ rfl HL 3 gr 0 199 _ (rdrC ⟨cutA rest.A rest.c 1 97,rest.n - 1,rest.c - 1⟩ tagE ⟨aS gw,n,n⟩) (Sv.v ⟨cutA rest.A rest.c 1 97,rest.n - 1,rest.c - 1⟩) rfl rfl rfl rfl (by rw[xem];omega) (xe9 _ _ _ _) ?_;refine Xj4 ?_;clear HL;intro w HL HT;generalize (⟨cutA rest.A rest.c 1 97,rest.n - 1,rest.c - 1⟩:Sv)=rest1 at HL HT;go_upto_region 5 with fail;refine X19 ?_;refine Xj9 ?_;refine X1a ?_;go_upto_region 6 with fail;refine Xg1 ?_;go_upto_region 7 with fail;refine Xi5 ?_;go_upto_region 9 with fail;refine Xt ?_;refine Xi7 ?_;go_upto_region 11 with fail
   refine Xt ?_;refine Xjf ?_;refine X1a ?_;go_upto_region 14 with fail;refine X12 ?_;refine Xja ?_;refine X15 ?_;refine no_implicit_lambda% (X2f ?_);go_upto_region 15 with fail;refine Xib ?_;refine X6 ?_;refine Xj5 ?_;clear HL;intro w HL;go_wp2_with fail;refine Xj6 ?_;exact⟨D32.z,false,rest1,bs,xs,Gs,rfl,HT,by simp,hW.mono (by omega),HXL.out,HL.drop _ (sA [_,_,_] _),.inr ⟨rfl,HQ.out⟩⟩
theorem plM_deep(ks:List D32)(N:Nat)(b:Brv)(bs:List Brv)(lo hi:Nat)(top:D32)(d mid:Nat)(hc:xcg b=true)(hk:b.kind=2)(hlt:lo<hi)(hd:d<256)(hm:lo+xbd ((ks.drop lo).take (hi - lo)) d=mid) :
  (plM ks N bs lo mid top (d+1)=none→plM ks (N+1) (b::bs) lo hi top d=none) ∧
  (∀ l r1,plM ks N bs lo mid top (d+1)=some (l,r1)→plM ks N r1 mid hi (xf3 top d) (d+1)=none→plM ks (N+1) (b::bs) lo hi top d=none) ∧
  (∀ l r1 r r2,plM ks N bs lo mid top (d+1)=some (l,r1)→plM ks N r1 mid hi (xf3 top d) (d+1)=some (r,r2)→plM ks (N+1) (b::bs) lo hi top d=some (tagI l r,r2)):=by
 have e:plM ks (N+1) (b::bs) lo hi top d=match plM ks N bs lo mid top (d+1) with
    | none=>none
    | some (l,r1)=>match plM ks N r1 mid hi (xf3 top d) (d+1) with
     | none=>none
     | some (r,r2)=>some (tagI l r,r2):=by
  rw[plM,if_neg (by rw[hc];decide),if_neg (by omega),if_neg (by omega),if_neg (by omega),if_neg (by omega),hm]
 refine⟨fun h=>?_,fun l r1 h h2=>?_,fun l r1 r r2 h h2=>?_⟩
 ·rw[e,h]
 ·rw[e,h];simp only[h2]
 ·rw[e,h];simp only[h2]
theorem xro(W0:World)(D:Nat→Prop)(A:Option Addr)(n c:Nat)(ks:List D32)(hKY:KyD D W0 A n c ks)(gr gw:Nat)(hn:n≤1000)(N:Nat)(d:Nat)(X:BL)(rest:Sv)(b:Brv)(bs:List Brv)(xs:List Prv)(Gs:BL)(M lo hi:Nat)(top:D32)(w:World)(hd:d≤256)(hB:BrD D W0 rest (b::bs))(hW:Wys M Gs xs)(hxl:xs.length=n)(hlh:lo≤hi∧hi≤n)(hM:M+2*(b::bs).length≤200000)
  (H:Loc W0 D (RX gr gw rest ⟨aS gw,n,n⟩ xs Gs X) w) (ih:∀ (d:Nat) (X:BL) (rest:Sv)(bs:List Brv)(xs:List Prv)(Gs:BL)(M lo hi:Nat)(top:D32)(w:World),
  d+N=256→BrD D W0 rest bs→Wys M Gs xs→xs.length=n→lo≤hi∧hi≤n→M+2*bs.length≤200000→Loc W0 D (RX gr gw rest ⟨aS gw,n,n⟩ xs Gs X) w →
  Calls prog 109 #[pG gr,.slice A n c,iV lo,iV hi,top.a,iV d] w (PlO W0 D X gr gw ⟨aS gw,n,n⟩ n M bs.length (plM ks N bs lo hi top d))) (hd1:d+(N+1)=256) (hcl:xcg b=true) (hk2:b.kind=2) (hop:lo<hi) :
  Calls prog 109 #[pG gr,.slice A n c,iV lo,iV hi,top.a,iV d] w (PlO W0 D X gr gw ⟨aS gw,n,n⟩ n M (b::bs).length (plM ks (N+1) (b::bs) lo hi top d)):=by
 have HXL:=hZ hxl;have hr0:1≤rest.n:=by have:=hB.s.len;simp only[qr] at this;omega
 have k1:((rest.n:Int)==0)=false:=nB (by omega);obtain⟨ad,hA,_⟩:=hB.s.at_ 0 (by simp);have HSV:Hid (rest.v=.slice (some ad) rest.n rest.c):=hZ (by unfold Sv.v;rw[hA])
 have hbrd:∀ (L:BL)(W:World),Loc W0 D L W→Rd W (some (ad.add (0*97))) b.cells:=by
  intro L W hW;obtain⟨ad',e',h'⟩:=(hB.at hW).at_ 0 (by simp);rw[hA] at e';cases e';exact h'
 have CC:=fun u=>hZ (xjd b u)
 clear hxl hA;have HL:=H;clear H;rw[hcl] at CC;obtain⟨mid,hmid⟩:∃ mid,lo+xbd ((ks.drop lo).take (hi - lo)) d=mid:=⟨_,rfl⟩;obtain⟨hq0,hq1,hq2⟩:=plM_deep ks N b bs lo hi top d mid hcl hk2 hop (by omega) hmid;generalize plM ks (N+1) (b::bs) lo hi top d=q at hq0 hq1 hq2 ⊢
 have hmh:lo≤mid∧mid≤hi:=by
  have h1:=xen ((ks.drop lo).take (hi - lo)) d;rw[List.length_take,List.length_drop] at h1;omega
 have HMID:Hid ((lo:Int)+((xbd ((ks.drop lo).take (hi - lo)) d:Nat):Int)=(mid:Int)):=hZ (by omega);have k5:decide ((lo:Int)<(hi:Int))=true:=by simp;omega
 have k14:decide ((256:Int)≤(d:Int))=false:=by simp;omega
 have k7:((b.kind:Int)==0)=false:=nB (by omega);have k9:((b.kind:Int)==3)=false:=nB (by omega);have k11:((b.kind:Int)==1)=false:=nB (by omega);refine Xd0 ?_;intro HD1;have hnc:=hKY.s.cap;simp only[qr] at hM;have HQ0:=hZ hq0;have HQ1:=hZ hq1;have HQ2:=hZ hq2;clear hmid hop hk2 hcl hq0 hq1 hq2;go_enter func109,ntmps109;go_upto_region 0 with fail;refine Xiu ?_;clear HL;intro g10 g12 w HL;go_upto_region 1 with fail;refine Xj1 ?_;intro w HL;go_upto_region 3 with fail;refine Xj2 ?_;clear HL;intro g14 w HL;go_upto_region 4 with fail;refine Xj3 ?_;refine xa3 sc42 rfl _ _ rfl HL 3 gr 0 199 _ (rdrC ⟨cutA rest.A rest.c 1 97,rest.n - 1,rest.c - 1⟩ tagE ⟨aS gw,n,n⟩) (Sv.v ⟨cutA rest.A rest.c 1 97,rest.n - 1,rest.c - 1⟩) rfl rfl rfl rfl (by rw[xem];omega) (xe9 _ _ _ _) ?_;refine Xj4 ?_;clear HL;intro w HL HT
 generalize (⟨cutA rest.A rest.c 1 97,rest.n - 1,rest.c - 1⟩:Sv)=rest1 at HL HT;go_upto_region 5 with fail;refine X19 ?_;refine Xj7 ?_;refine X1a ?_;go_upto_region 6 with fail;refine Xg1 ?_;go_upto_region 7 with fail;refine Xi5 ?_;go_upto_region 9 with fail;refine Xt ?_;refine Xi7 ?_;go_upto_region 11 with fail;refine Xt ?_;refine Xjf ?_;refine X1a ?_;go_upto_region 14 with fail;refine X12 ?_;refine Xj8 ?_;refine X24 ?_;refine xac rfl _ (xce _ _ rfl _ _ rfl rfl k14) ?_;refine X28 ?_;go_upto_region 16 with fail;refine X99 ?_;refine xaa rfl _ (xk3 sl26 (.tmp 99) _ _ rfl A n c lo hi .i64 .i64 rfl rfl rfl (by omega) (by omega)) ?_;refine X42 ?_;intro K hK;refine xad cf139 rfl _ rfl ?_;refine X1w ?_
 (with_reducible refine(xk5 (cutA A c lo 32) (hi - lo) (c - lo) ((ks.drop lo).take (hi - lo)) d (by omega) _ ((hKY.at HL).cut lo hi (by omega) (by omega)) (by omega)).mono ?_);refine X4y ?_;clear hK K;intro w HL;refine xaa rfl _ (xa6 _ _ rfl _ _ _ rfl rfl HMID.out (by omega)) ?_;refine X1a ?_;have HIN:=Loc.inX [(g14,124,b.cells),(g12,23,D32.z.c),(g10,24,top.c)] HL;go_upto_region 17 with fail;refine X99 ?_;refine xaa rfl _ (xbn ag24 HL _ rfl _ rfl _ _ (.tail _ (.tail _ (.head _))) (D32.cl _)) ?_;refine X15 ?_;refine Xd4 ?_;refine X50 ?_;intro K hK;refine xad cf109 rfl _ rfl ?_;refine X1w ?_;(with_reducible refine(ih (d+1) _ rest1 bs xs Gs M lo mid top _ (by omega) HT hW HXL.out ⟨hmh.1,by omega⟩ (by omega) HIN).mono ?_);rintro e w ⟨l,ok1,rest2,bs2,xs2,Gs2,rfl,hB2,hR2,hW2,hxl2,HL2,hr1⟩
 have HM:=Loc.outX [(g14,124,b.cells),(g12,23,D32.z.c),(g10,24,top.c)] HL2;clear HL HL2 hW HIN;have HL:=HM;clear HM;simp only[qm,qn] at HL;refine X54 ?_;clear hK K;refine xah zr23 rfl rfl HL ?_;clear HL;intro g17 w HL;refine Xia ?_;clear HL;intro w HL;have HX2:=hZ hxl2;clear hxl2;rcases hr1 with⟨rfl,hr1⟩ | ⟨rfl,hr1⟩
 ·have HR1:=hZ hr1
  clear hr1;go_upto_region 18 with fail;refine X12 ?_;refine Xj8 ?_;refine X1z ?_;go_upto_region 20 with fail;refine Xt ?_;refine xaa rfl _ (xbn ag24 HL _ rfl _ rfl _ _ (.tail _ (.tail _ (.tail _ (.head _)))) (D32.cl _)) ?_;refine X42 ?_;intro K hK;refine xad cf168 rfl _ rfl ?_;refine X1w ?_;(with_reducible refine(flip_d _ top (d:Int) (by omega)).mono ?_);refine X4a ?_;clear hK K;intro w HL;refine xah zr24 rfl rfl HL ?_;clear HL;intro g19 w HL;refine Xfb ?_;clear HL;intro w HL;generalize hfl:xo6 (d:Int)=fe;clear hfl;have HIN2:=Loc.inX [(g19,24,(xf3 top (d:Int)).c),(g17,23,l.c),(g14,124,b.cells),(g12,23,D32.z.c),(g10,24,top.c)] HL;go_upto_region 21 with fail;refine X99 ?_;refine X6x ?_;refine X15 ?_;refine Xd4 ?_;refine X50 ?_;intro K hK;refine xad cf109 rfl _ rfl ?_;refine X1w ?_
  (with_reducible refine(ih (d+1) _ rest2 bs2 xs2 Gs2 (M+2*(bs.length - bs2.length)) mid hi (xf3 top d) _ (by omega) hB2 hW2 HX2.out ⟨hmh.2,by omega⟩ (by omega) HIN2).mono ?_);rintro e w ⟨r,ok2,rest3,bs3,xs3,Gs3,rfl,hB3,hR3,hW3,hxl3,HL3,hr2⟩;have HM:=Loc.outX [(g19,24,(xf3 top (d:Int)).c),(g17,23,l.c),(g14,124,b.cells),(g12,23,D32.z.c),(g10,24,top.c)] HL3;clear HL HL3 hW2 HIN2;have HL:=HM;clear HM;simp only[qm,qn] at HL;refine X54 ?_;clear hK K;refine xah zr23 rfl rfl HL ?_;clear HL;intro g21 w HL;refine Xia ?_;clear HL;intro w HL;have HX3:=hZ hxl3;clear hxl3;go_upto_region 22 with fail;refine X12 ?_;refine Xjg ?_;refine Xee ?_;intro K hK;refine xad cf169 rfl _ rfl ?_;refine X1w ?_
  (with_reducible refine(xmo gr gw rest3 n xs3 Gs3 (M+2*(bs.length - bs2.length)+2*(bs2.length - bs3.length)) r lo mid _ hW3 HX3.out ⟨hmh.1,by omega⟩ (by omega) (by omega) (Loc.lend (Loc.inY [_,_,_,_,_,_] HL))).mono ?_);rintro e w ⟨xs4,Gs4,rfl,hW4,hxl4,R⟩;have HM:=Loc.outY [_,_,_,_,_,_] (Loc.merge (Loc.inY [_,_,_,_,_,_] HL) R);clear R HL hW3;have HL:=HM;clear HM;simp only[qm,qn] at HL;refine X20 ?_;clear hK K;have HX4:=hZ hxl4;clear hxl4;go_upto_region 23 with fail;refine X12 ?_;refine Xjh ?_;refine Xee ?_;intro K hK;refine xad cf169 rfl _ rfl ?_;refine X1w ?_;(with_reducible refine(xmo gr gw rest3 n xs4 Gs4 (M+2*(bs.length - bs2.length)+2*(bs2.length - bs3.length)+1) l mid hi _ hW4 HX4.out ⟨hmh.2,by omega⟩ (by omega) (by omega) (Loc.lend (Loc.inY [_,_,_,_,_,_] HL))).mono ?_)
  rintro e w ⟨xs5,Gs5,rfl,hW5,hxl5,R⟩;have HM:=Loc.outY [_,_,_,_,_,_] (Loc.merge (Loc.inY [_,_,_,_,_,_] HL) R);clear R HL hW4;have HL:=HM;clear HM;simp only[qm,qn] at HL;refine X20 ?_;clear hK K;have HX5:=hZ hxl5;clear hxl5;go_upto_region 24 with fail;refine Xt ?_;refine Xjh ?_;refine X6 ?_;refine Xjg ?_;refine X50 ?_;intro K hK;refine X7b ?_;(with_reducible refine(xgp _ l r).mono ?_);refine X45 ?_;clear hK K;intro w HL;refine X15 ?_;refine xbo ag23 rfl _ _ rfl HL 4 g12 23 D32.z.c (tagI l r).c rfl rfl rfl (D32.cl _) (D32.cl _) (D32.c1 _) ?_;refine X2p ?_;clear HL;intro w HL;refine X10 ?_;go_wp2_with fail;refine Xc ?_;refine bodyPost_ret (xay rfl ag23 _ _ g12 23 _ rfl (HL.blk (.tail _ (.tail _ (.tail _ (.tail _ (.head _)))))) (D32.cl _)) rfl ?_
  refine⟨tagI l r,ok2,rest3,bs3,xs5,Gs5,rfl,hB3,by (try simp only[qr]);omega,hW5.mono (by (try simp only[qr]);omega),HX5.out,HL.drop _ (sA [_,_,_,_,_,_] _),?_⟩;rcases hr2 with⟨rfl,hr2⟩ | ⟨rfl,hr2⟩
  ·exact .inl ⟨rfl,HQ2.out _ _ _ _ HR1.out hr2⟩
  ·exact .inr ⟨rfl,HQ1.out _ _ HR1.out hr2⟩
 ·have HR1:=hZ hr1
  clear hr1;go_upto_region 18 with fail;refine X12 ?_;refine Xja ?_;refine X1z ?_;go_upto_region 19 with fail;refine Xib ?_;refine Xji ?_;refine X4c ?_;clear HL;intro w HL;go_wp2_with fail;refine Xc ?_;refine bodyPost_ret (xay rfl ag23 _ _ g12 23 _ rfl (HL.blk (.tail _ (.tail _ (.head _)))) (D32.cl _)) rfl ?_;exact⟨D32.z,false,rest2,bs2,xs2,Gs2,rfl,hB2,by (try simp only[qr]);omega,hW2.mono (by (try simp only[qr]);omega),HX2.out,HL.drop _ (sA [_,_,_,_] _),.inr ⟨rfl,HQ0.out HR1.out⟩⟩
theorem xvg(W0:World)(D:Nat→Prop)(A:Option Addr)(n c:Nat)(ks:List D32)(hKY:KyD D W0 A n c ks)(gr gw:Nat)(hn:n≤1000)(N:Nat):∀ (d:Nat) (X:BL) (rest:Sv)(bs:List Brv)(xs:List Prv)(Gs:BL)(M lo hi:Nat)(top:D32)(w:World),
  d+N=256→BrD D W0 rest bs→Wys M Gs xs→xs.length=n→lo≤hi∧hi≤n→M+2*bs.length≤200000→Loc W0 D (RX gr gw rest ⟨aS gw,n,n⟩ xs Gs X) w →
  Calls prog 109 #[pG gr,.slice A n c,iV lo,iV hi,top.a,iV d] w (PlO W0 D X gr gw ⟨aS gw,n,n⟩ n M bs.length (plM ks N bs lo hi top d)):=by
 induction N with
 | zero =>
  intro d X rest bs xs Gs M lo hi top w hdN hB hW hxl hlh hM H
  cases bs with
  | nil=>exact xk9 W0 D A n c ks hKY gr gw hn 0 d X rest xs Gs M lo hi top w hB hW hxl H
  | cons b bs=>exact xla W0 D A n c ks hKY gr gw hn 0 d X rest b bs xs Gs M lo hi top w (by omega) hB hW hxl hlh hM H (.inr (.inr (.inr (by omega))))
 | succ N ih =>
  intro d X rest bs xs Gs M lo hi top w hdN hB hW hxl hlh hM H
  cases bs with
  | nil=>exact xk9 W0 D A n c ks hKY gr gw hn (N+1) d X rest xs Gs M lo hi top w hB hW hxl H
  | cons b bs =>
   by_cases hfl:xcg b=false∨b.kind≠2∨¬ lo<hi∨256≤d
   ·exact xla W0 D A n c ks hKY gr gw hn (N+1) d X rest b bs xs Gs M lo hi top w (by omega) hB hW hxl hlh hM H hfl
   ·have h1:xcg b=true:=by
     cases h:xcg b with
     | true=>rfl
     | false=>exact absurd (.inl h) hfl
    have h2:b.kind=2:=by
     by_cases h:b.kind=2
     ·exact h
     ·exact absurd (.inr (.inl h)) hfl
    have h3:lo<hi:=by
     by_cases h:lo<hi
     ·exact h
     ·exact absurd (.inr (.inr (.inl h))) hfl
    exact xro W0 D A n c ks hKY gr gw hn N d X rest b bs xs Gs M lo hi top w (by omega) hB hW hxl hlh hM H ih hdN h1 h2 h3
end
theorem madeRows{α:Type}(f:α→List Value)(x:α)(z:Nat)(hz:∀ y,(f y).length=z)(h0:0<z)(n:Nat):madeCells (f x).toArray (n*z)=((List.replicate n x).flatMap f).toArray:=by
 apply Array.ext';apply List.ext_getElem?;intro j;by_cases h:j<n*z
 ·have hj1:j / z<n:=Nat.div_lt_of_lt_mul (by rw[Nat.mul_comm];exact h)
  have hj2:j%z<z:=Nat.mod_lt _ h0;have e:=xii hz (List.replicate n x) ([]:List Value) (j / z) (j%z) (by rw[List.length_replicate];exact hj1) hj2;rw[List.append_nil,Nat.div_add_mod',List.getElem_replicate] at e;rw[e];have h3:j%z<(f x).length:=by rw[hz];exact hj2
  have e2:(f x)[j%z]? = some (f x)[j%z]:=List.getElem?_eq_getElem h3;simp[madeCells,h,hz,h3,e2]
 ·have h1:(madeCells (f x).toArray (n*z)).toList[j]? = none:=by
   rw[List.getElem?_eq_none];rw[Array.length_toList,size_madeCells];omega
  have h2:((List.replicate n x).flatMap f).toArray.toList[j]? = none:=by
   rw[List.getElem?_eq_none];show((List.replicate n x).flatMap f).length≤j;rw[xaw hz,List.length_replicate];omega
  rw[h1,h2]
section
variable {w0 w:World}{D:Nat→Prop}{L:BL}{o:Oper}{a:Act}{K:Act→World→Prop}{Q:Exit→Act→World→Prop}
theorem xp8(l c:Operand)(ho:o.op=Op.makeSlice 128 l c)(H:Loc w0 D L w)(n:Nat)(hl:a.eval l=iV n)(hc:a.eval c=iV n)(hn:n≤1000000)
  (h:∀ g w',Loc w0 D ((g,34,(List.replicate n Prv.z).flatMap Prv.cells)::L) w'→K (a.put o.dst (.slice (aS g) n n)) w'):o.wp prog a w K Q:=by
 obtain⟨i,hi,hz,hs,hb⟩:=info_parts el34.i;have hr:=run_make (P:=prog) w 128 34 i _ underlying128 hi hz .i64 .i64 n n (by omega) (by omega) (by rw[hb];omega) (by omega);rw[hs] at hr;simp only[Int.toNat_natCast] at hr;have e:madeCells (Value.agg Prv.z.cells.toArray).cells (n*130)=((List.replicate n Prv.z).flatMap Prv.cells).toArray:=madeRows Prv.cells Prv.z 130 Prv.len (by decide) n;rw[e] at hr;unfold Oper.wp execOp;simp only[ho,hl,hc,Sem.run_bind,hr,Result.andThen_ok];exact h _ _ (H.new 34 _)
end
theorem wys_zero(n:Nat):Wys 0 [] (List.replicate n Prv.z):=by
 induction n with
 | zero=>exact .nil
 | succ n ih =>
  rw[List.replicate_succ];exact Wys.cons (G:=[]) (x:=Prv.z) (ds:=[]) (Gw.nil 23 32) (Nat.le_refl _) ih
section
variable {w w':World}
theorem xp9(w:World):Calls prog 110 #[Sv.v Sv.nil] w fun e w'=>e=.returned (.tuple #[])∧w=w':=by
 have HL:=Loc.start w;go_enter func110,ntmps110;go_upto_region 0 with fail;refine X12 ?_;refine xaa rfl _ (xb3 underlying29 _ rfl none 0 0 rfl) ?_;refine X6 ?_;refine xaa rfl _ (xa2 _ _ rfl _ _ (-1) rfl rfl rfl (by omega)) ?_;refine X1g ?_;go_wp2_with fail;refine X9q ?_;rw[rounds_succ];go_upto_region 1 with fail;refine X19 ?_;refine Xeq ?_;go_wp2_with fail
 go_end0
 exact⟨rfl,rfl⟩
theorem rev_way{W0:World}{D:Nat→Prop}{L0 L1 G:BL}(sv:Sv)(ds:List D32)(w:World)(hG:Gw 23 32 G sv ds.length (ds.flatMap D32.c))(hl:ds.length≤140737488355328)(H:Loc W0 D (L0++(G++L1)) w) :
  Calls prog 110 #[sv.v] w fun e w'=>e=.returned (.tuple #[])∧∃ G',Gw 23 32 G' sv ds.length (ds.reverse.flatMap D32.c)∧Loc W0 D (L0++(G'++L1)) w':=by
 obtain⟨hxl,⟨rfl,rfl,h0⟩ | ⟨g,cap,tl,rfl,rfl,h1,h2,h3⟩⟩:=hG
 ·have hd:ds = []:=List.eq_nil_of_length_eq_zero h0
  subst hd;refine(xp9 w).mono ?_;rintro e w' ⟨rfl,rfl⟩;exact⟨rfl,[],Gw.nil 23 32,H⟩
 ·refine(xn4 g cap ds tl w (H.blk (by simp)) h1 hl).mono ?_
  rintro e w' ⟨rfl,hb,hf⟩;refine⟨rfl,[(g,23,ds.reverse.flatMap D32.c++tl)],⟨by rw[xaw D32.cl,List.length_reverse],.inr ⟨g,cap,tl,rfl,rfl,h1,h2,?_⟩⟩,?_⟩
  ·rw[List.length_append,xaw D32.cl,List.length_reverse]
   rw[List.length_append,xaw D32.cl] at h3;exact h3
  ·obtain⟨ho,_,hnD,hne⟩:=Loc.out (x:=(g,23,ds.flatMap D32.c++tl)) (L0:=L0) (L1:=L1) H
   have h4:=ho.frame (T:=(· = g)) hf (fun k hk=>hk▸hnD) (fun x hx=>hne x hx);refine⟨h4.fr,?_,xqm h4.nd hne,h4.old⟩;intro x hx;rcases List.mem_append.1 hx with hx | hx
   ·exact h4.own x (List.mem_append.2 (.inl hx))
   ·rcases List.mem_cons.1 hx with rfl | hx
    ·exact⟨hnD,hb⟩
    ·exact h4.own x (List.mem_append.2 (.inr hx))
end
def RiseK(ks:List D32):Prop:=∀ (i:Nat)(h:i+1<ks.length),cmpZ (nOf ks[i].l) (nOf ks[i+1].l)<0
def riseB(ks:List D32):Bool:=(List.range (ks.length - 1)).all fun i=>decide (cmpZ (nOf (ks.getD i D32.z).l) (nOf (ks.getD (i+1) D32.z).l)<0)
theorem xiy(ks:List D32):riseB ks=true↔RiseK ks:=by
 unfold riseB RiseK;simp only[List.all_eq_true,List.mem_range,decide_eq_true_eq];constructor
 ·intro h i hi
  have:=h i (by omega);simpa[List.getD,hi,show i<ks.length by omega] using this
 ·intro h i hi
  have h2:=h i (by omega);simpa[List.getD,show i+1<ks.length by omega,show i<ks.length by omega] using h2
def rdM(ks:List D32)(bs:List Brv):Option D32:=if 64<ks.length∨65536<bs.length then none else match plM ks 256 bs 0 ks.length D32.z 0 with
 | some (h,[])=>some h
 | _=>none
def WyR(N:Nat)(w:World)(ways:Sv)(n:Nat):Prop:=∃ xs:List Prv,Rd w ways.A (xs.flatMap Prv.cells)∧xs.length=n∧ways.n=n∧n≤ways.c∧(∀ ad,ways.A=some ad→N≤ad.block)∧∀ x∈xs,∃ ds,Sds w x.sides ds∧∀ ad,x.sides.A=some ad→N≤ad.block
def MrO(N:Nat)(w0:World)(q:Option D32)(n:Nat)(e:Ending)(w':World):Prop:=∃ (h:D32)(ways:Sv)(er:Int),e=.returned (.tuple #[h.a,ways.v,iV er])∧Below N w0 w'∧((er=0∧q=some h∧WyR N w' ways n)∨((er==0)=false∧q=none))
def rdQ(ks:List D32)(bs:List Brv):Option D32:=if riseB ks=true then rdM ks bs else none
theorem wo_box{P:Program}{T:TypeId}{w0 w:World}{D:Nat→Prop}{L:BL}{o:Oper}{a:Act}{K:Act→World→Prop}{Q:Exit→Act→World→Prop}(x:Operand)(ho:o.op=.box T x)(H:Loc w0 D L w)(cs:List Value)(hx:a.eval x=.agg cs.toArray)
  (h:∀ g w',Loc w0 D ((g,T,cs)::L) w'→K (a.put o.dst (pG g)) w'):o.wp P a w K Q:=by
 have e:(execOp a.eval o).run P w=.ok (.value (.pointer (some ⟨w.heap.size,0,none⟩))) (w.alloc (.cells cs.toArray T)):=by
  unfold execOp;simp[ho,hx,Instr.box,newVar,newRow,Value.cells]
 unfold Oper.wp;rw[e];exact h _ _ (H.new T cs)
theorem Wys.out{M:Nat}{Gs:BL}{xs:List Prv}(h:Wys M Gs xs){w0 w:World}{D:Nat→Prop}{L:BL}{N:Nat}(H:Loc w0 D L w)(hm:∀ y∈Gs,y∈L)(hN:∀ y∈Gs,N≤y.1):∀ x∈xs,∃ ds,Sds w x.sides ds∧∀ ad,x.sides.A=some ad→N≤ad.block:=by
 induction h with
 | nil=>intro x hx;cases hx
 | @cons Gs G xs x ds h1 h2 hs ih =>
  intro y hy;rcases List.mem_cons.1 hy with rfl | hy
  ·exact⟨ds,⟨h1.rdm (fun z hz=>hm z (List.mem_append.2 (.inl hz))) H,h1.len.symm,h1.cap.1⟩,h1.fars (fun z hz=>hN z (List.mem_append.2 (.inl hz)))⟩
  ·exact ih (fun z hz=>hm z (List.mem_append.2 (.inr hz))) (fun z hz=>hN z (List.mem_append.2 (.inr hz))) y hy
theorem xvh(W0:World)(D:Nat→Prop)(A:Option Addr)(n c:Nat)(ks:List D32)(hKY:KyD D W0 A n c ks)(gr gw:Nat)(hn:n≤1000)(ps:Sv)(bs:List Brv)(X:BL)(w:World)(hB:BrD D W0 ps bs)(hb:bs.length≤65536)
  (H:Loc W0 D ((gr,199,rdrC ps tagE ⟨aS gw,n,n⟩)::(gw,34,(List.replicate n Prv.z).flatMap Prv.cells)::X) w) :
  Calls prog 109 #[pG gr,.slice A n c,iV 0,iV n,D32.z.a,iV 0] w (PlO W0 D X gr gw ⟨aS gw,n,n⟩ n 0 bs.length (plM ks 256 bs 0 n D32.z 0)) :=
 xvg W0 D A n c ks hKY gr gw hn 256 0 X ps bs (List.replicate n Prv.z) [] 0 0 n D32.z w rfl hB (wys_zero n) (by simp) ⟨Nat.zero_le _,Nat.le_refl _⟩ (by omega) H
section
variable {w w':World}
theorem xrp(A:Option Addr)(n c:Nat)(ks:List D32)(ps:Sv)(bs:List Brv)(w:World)(hK:KyS w A n c ks)(hB:BrS w ps bs)(hnn:n≤140737488351232):Calls prog 57 #[.slice A n c,mval ps] w (MrO w.heap.size w (rdQ ks bs) n):=by
 have HKS:=hZ hK;have HBS:=hZ hB;have HKL:=hZ hK.len;have HBL:=hZ hB.len;clear hK hB;obtain⟨w0,rfl,HL⟩:=lS w;obtain⟨q,hq⟩:∃ q,rdQ ks bs=q:=⟨_,rfl⟩;rw[hq];have HQ:=hZ hq;clear hq;go_enter func57,ntmps57;go_upto_region 0 with fail;refine X39 ?_;clear HL;intro g3 w HL;refine X6 ?_;refine xah zr23 rfl rfl HL ?_;clear HL;intro g4 w HL;refine X1g ?_;by_cases h64:64<n
 ·have k2:decide ((64:Int)<(n:Int))=true:=by simp;omega
  go_upto_region 1 with fail;refine X12 ?_;refine Xgb ?_;refine xaa rfl _ (xbq (b:=true) _ _ rfl _ _ rfl rfl k2) ?_;refine Xak ?_;refine X27 ?_;go_upto_region 2 with fail;refine Xib ?_;refine X5p ?_;refine X33 ?_;clear HL;intro w HL;refine X1f ?_;go_wp2_with fail;refine Xc ?_;refine Xjj ?_;refine⟨D32.z,Sv.nil,4,rfl,HL.below,.inr ⟨rfl,?_⟩⟩;rw[← HQ.out];unfold rdQ
  split
  ·unfold rdM
   rw[if_pos (by have h1:=HKL.out;have h2:=HBL.out;omega)]
  ·rfl
 have k2:decide ((64:Int)<(n:Int))=false:=by simp;omega
 by_cases hp:65536<ps.n
 ·have k7:decide ((65536:Int)<(ps.n:Int))=true:=by simp;omega
  go_upto_region 1 with fail;refine X12 ?_;refine Xgb ?_;refine Xa2 ?_;refine X15 ?_;refine xac rfl _ (xaf xna _ rfl _ rfl) ?_;refine Xjk ?_;refine X6 ?_;refine Xjl ?_;refine X6 ?_;refine xac rfl _ (xbq (b:=true) _ _ rfl _ _ rfl rfl k7) ?_;refine X28 ?_;go_upto_region 2 with fail;refine Xib ?_;refine X5p ?_;refine X33 ?_;clear HL;intro w HL;refine X1f ?_;go_wp2_with fail;refine Xc ?_;refine Xjj ?_;refine⟨D32.z,Sv.nil,4,rfl,HL.below,.inr ⟨rfl,?_⟩⟩;rw[← HQ.out];unfold rdQ
  split
  ·unfold rdM
   rw[if_pos (by have h1:=HKL.out;have h2:=HBL.out;omega)]
  ·rfl
 have k7:decide ((65536:Int)<(ps.n:Int))=false:=by simp;omega
 go_upto_region 1 with fail;refine X12 ?_;refine Xgb ?_;refine Xa2 ?_;refine X15 ?_;refine xac rfl _ (xaf xna _ rfl _ rfl) ?_;refine Xjk ?_;refine X6 ?_;refine Xjl ?_;refine X6 ?_;refine xac rfl _ (xbq (b:=false) _ _ rfl _ _ rfl rfl k7) ?_;refine X28 ?_;go_upto_region 3 with fail;refine X1j ?_;go_wp2_with fail
 go_loopw [7] (fun z wr=>∃ i:Nat,1≤i∧(i≤n∨i=1)∧z=.int .i64 (i:Int)∧(∀ (j:Nat)(h:j+1<ks.length),j+1<i→cmpZ (nOf ks[j].l) (nOf ks[j+1].l)<0)∧Loc w0 (Old w0) [(g4,23,D32.z.c),(g3,44,[Sv.v ps])] wr) (fun z _=>(n - intOf z).toNat)
 case atStart=>exact⟨1,Nat.le_refl _,.inr rfl,rfl,fun j h h2=>by omega,HL⟩
 case round =>
  clear HL;obtain⟨i,hi1,hi2,rfl,hz,HL⟩:=hrel;obtain⟨w,rfl⟩:=eW wr;have HZ:=hZ hz;clear hz;by_cases hlt:i<n
  ·have k4:decide ((i:Int)<(n:Int))=true:=by simp;omega
   obtain⟨i,rfl⟩:∃ j,i=j+1:=⟨i - 1,by omega⟩;have hik:i+1<ks.length:=by have:=HKL.out;omega
   obtain⟨ad,hA,hE1⟩:=HKS.out.at_ i (by omega);obtain⟨ad',hA',hE2⟩:=HKS.out.at_ (i+1) hik;rw[hA] at hA';cases hA';have HE1:=hZ hE1;have HE2:=hZ hE2;refine Xan ?_;intro HSV;clear hE1 hE2 hA;have HI:Hid (((i+1:Nat):Int) - 1=(i:Int)):=hZ (by omega);have HI2:Hid (((i+1:Nat):Int)+1=((i+1+1:Nat):Int)):=hZ (by omega);obtain⟨cm,hcm⟩:∃ cm,cmpZ (nOf ks[i].l) (nOf ks[i+1].l)=cm:=⟨_,rfl⟩;have CC:=fun u=>hZ (xgq u ks[i] ks[i+1])
   simp only[hcm] at CC;have HCM:=hZ hcm;clear hcm;obtain⟨ka,hka⟩:∃ ka,ks[i]=ka:=⟨_,rfl⟩;obtain⟨kb,hkb⟩:∃ kb,ks[i+1]=kb:=⟨_,rfl⟩;rw[hka] at HE1;rw[hkb] at HE2;simp only[hka,hkb] at CC;clear hka hkb;generalize hi1e:i+1=i1 at HI HI2 HE2 k4 hlt CC;have HI1E:=hZ hi1e;clear hi1e;by_cases hge:(0:Int)≤cm
   ·have k10:decide ((0:Int)≤cm)=true:=by simpa using hge
    go_upto_region 4 with fail;refine Xgc ?_;refine Xc0 ?_;go_upto_region 6 with fail;refine rB (Loc.P HL) [] [9] [0,1,2,3,4,5,6,7,8,9,10] 0 ?_;refine X3v ?_;intro HL;refine Xjm ?_;refine xab rfl rfl HL (fun W hW=>xaz sl26 (.tmp 28) _ rfl ad n c i .i64 HSV.out rfl (by have:=HI1E.out;omega)) ?_;refine X6 ?_;refine Xjn ?_;refine X71 ?_;refine Xjo ?_;refine X6 ?_;refine Xjp ?_;refine Xh ?_;intro K hK;refine Xax ?_;refine X7q ?_;clear hK K;intro w HL;refine Xjq ?_;go_upto_region 7 with fail;refine Xib ?_;refine X5p ?_;refine X33 ?_;clear HL;intro w HL;refine X1f ?_;go_wp2_with fail;refine Xc ?_;refine Xjj ?_;refine⟨D32.z,Sv.nil,2,rfl,HL.below,.inr ⟨rfl,?_⟩⟩;rw[← HQ.out];unfold rdQ;rw[if_neg];intro hr;have:=(xiy ks).1 hr i hik;rw[HCM.out] at this;omega
   ·have k10:decide ((0:Int)≤cm)=false:=by simpa using hge
    go_upto_region 4 with fail;refine Xgc ?_;refine Xc0 ?_;go_upto_region 6 with fail;refine rB (Loc.P HL) [] [9] [0,1,2,3,4,5,6,7,8,9,10] 0 ?_;refine X3v ?_;intro HL;refine Xjm ?_;refine xab rfl rfl HL (fun W hW=>xaz sl26 (.tmp 28) _ rfl ad n c i .i64 HSV.out rfl (by have:=HI1E.out;omega)) ?_;refine X6 ?_;refine Xjn ?_;refine X71 ?_;refine Xjo ?_;refine X6 ?_;refine Xjp ?_;refine Xh ?_;intro K hK;refine Xax ?_;refine X7q ?_;clear hK K;intro w HL;refine Xjq ?_;go_upto_region 5 with fail;refine X12 ?_;refine xaa rfl _ (xa6 _ _ rfl _ _ _ rfl rfl HI2.out (by omega)) ?_;refine X1a ?_;go_wp2_with fail;go_roundw
    case rel =>
     refine⟨i1+1,by omega,.inl (by omega),rfl,fun j h h2=>?_,HL⟩;by_cases hji:j=i
     ·subst hji
      have:=HCM.out;omega
     ·exact HZ.out j h (by have:=HI1E.out;omega)
    case measure=>simp[intOf]<;>omega
  ·have k4:decide ((i:Int)<(n:Int))=false:=by simp;omega
   have hrise:RiseK ks:=fun j h=>HZ.out j h (by have:=HKL.out;omega)
   have HQ2:Hid (rdM ks bs=q):=hZ (by rw[← HQ.out];unfold rdQ;rw[if_pos ((xiy ks).2 hrise)]);clear hrise HQ HZ
   have hKYD:KyD (Old w0) w0 A n c ks:=⟨HKS.out,fun hne ad e=>by
    obtain⟨ad',e',hc⟩:=HKS.out.rd (by rw[xaw D32.cl];have:=List.length_pos_iff.2 hne;omega);rw[e] at e';cases e';have:=World.block_lt_of_cell? _ _ (hc 0 _ (List.getElem?_eq_getElem (by rw[xaw D32.cl];have:=List.length_pos_iff.2 hne;omega)))
    rwa [show(ad.add 0).block=ad.block by unfold Addr.add;split<;>rfl] at this⟩
   have hBRD:BrD (Old w0) w0 ps bs:=⟨HBS.out,fun hne ad e=>by
    obtain⟨ad',e',hc⟩:=HBS.out.rd (by rw[xaw Brv.len];have:=List.length_pos_iff.2 hne;omega);rw[e] at e';cases e';have:=World.block_lt_of_cell? _ _ (hc 0 _ (List.getElem?_eq_getElem (by rw[xaw Brv.len];have:=List.length_pos_iff.2 hne;omega)))
    rwa [show(ad.add 0).block=ad.block by unfold Addr.add;split<;>rfl] at this⟩
   go_upto_region 4 with fail;refine Xgc ?_;refine Xc0 ?_;generalize hLB : [(g4,23,D32.z.c),(g3,44,[Sv.v ps])]=LB at HL;have hm3:(g3,44,[Sv.v ps])∈LB:=by rw[← hLB];exact .tail _ (.head _)
   have hn1000:n≤1000000:=by omega
   go_upto_region 8 with fail
   go_cut [8] from 40 to 47 (fun p wx=>∃ gr gw,p=.pointer (some ⟨gr,0,none⟩)∧Loc w0 (Old w0) ((gr,199,rdrC ps tagE ⟨aS gw,n,n⟩)::(gw,34,(List.replicate n Prv.z).flatMap Prv.cells)::LB) wx)
   case first =>
    have HX:=HL.drew;refine rB (Loc.P HL) [] [2,5,7] [0,1,3,4] 5 ?_;refine X3a ?_;intro HL;refine xab rfl rfl HL (fun W hW=>xaf xna _ rfl _ rfl) ?_;refine X6 ?_;refine xab rfl rfl HL (fun W hW=>xai sc42 hW _ rfl _ _ rfl _ _ _ hm3 rfl) ?_;refine X3g ?_;refine xab rfl rfl HL (fun W hW=>xb3 underlying26 _ rfl _ _ _ rfl) ?_;refine X6 ?_;refine xcz [2,5] (by kernel_rfl) ?_;refine X4 ?_;refine⟨⟨rfl,?_⟩,⟨rfl,?_⟩,trivial⟩
    ·intro K hK
     refine X4w ?_;refine X4x ?_;refine X43 ?_;intro w hb HL;replace HX:=HX.next hb;clear hb;refine X5v ?_;clear hK K;refine xbk [5,6,7,8] 0 (by kernel_rfl) ?_;refine Xbl ?_;intro K hK;refine xp8 _ _ rfl HX n rfl rfl hn1000 ?_;clear HX HL;intro gw w HX;have HL:Loc w0 (Old w0) LB w:=HX.drop _ (sB _ _);refine X3x ?_;clear hK K;refine Xjr ?_;refine Xh ?_;intro K hK;refine wo_box _ rfl HX (rdrC ps tagE ⟨aS gw,n,n⟩) rfl ?_;clear HX HL;intro gr w HX;have HL:Loc w0 (Old w0) LB w:=HX.drop _ ((sB _ _).trans (sB _ _));refine Xcx ?_;clear hK K;go_wp2_with fail;go_meet
     case rel=>exact⟨gr,gw,rfl,HX⟩
    ·intro K hK
     refine xp8 _ _ rfl HX n rfl rfl hn1000 ?_;clear HX HL;intro gw w HX;have HL:Loc w0 (Old w0) LB w:=HX.drop _ (sB _ _);refine X3x ?_;clear hK K;refine xbk [2,6,7,8] 0 (by kernel_rfl) ?_;refine Xbl ?_;intro K hK;refine X4w ?_;refine X4x ?_;refine X43 ?_;intro w hb HL;replace HX:=HX.next hb;clear hb;refine X5v ?_;clear hK K;refine Xjr ?_;refine Xh ?_;intro K hK;refine wo_box _ rfl HX (rdrC ps tagE ⟨aS gw,n,n⟩) rfl ?_;clear HX HL;intro gr w HX;have HL:Loc w0 (Old w0) LB w:=HX.drop _ ((sB _ _).trans (sB _ _));refine Xcx ?_;clear hK K;go_wp2_with fail;go_meet
     case rel=>exact⟨gr,gw,rfl,HX⟩
   case rest =>
    clear HL;obtain⟨gr,gw,rfl,HL⟩:=hcut;obtain⟨w,rfl⟩:=eW wc;subst hLB;clear hm3;have hbl2:bs.length≤65536:=by have:=HBL.out;omega
    go_upto_region 9 with fail;refine X6s ?_;refine Xgb ?_;refine Xg9 ?_;refine X50 ?_;intro K hK;refine xad cf109 rfl _ rfl ?_;refine X1w ?_;(with_reducible refine(xvh w0 (Old w0) A n c ks hKYD gr gw (by omega) ps bs [(g4,23,D32.z.c),(g3,44,[Sv.v ps])] _ hBRD hbl2 HL).mono ?_);rintro e w ⟨h,ok,rest2,bs2,xs,Gs,rfl,hB2,hR2,hW,hxl,HL2,hpl⟩;clear HL;have HL:=Loc.outX (X:=[]) [(g4,23,D32.z.c),(g3,44,[Sv.v ps])] HL2;clear HL2;simp only[qm,qn] at HL;refine X54 ?_;clear hK K;refine xah zr23 rfl rfl HL ?_;clear HL;intro g9 w HL;refine Xia ?_;clear HL;intro w HL;have HXL:=hZ hxl;clear hxl;rcases hpl with⟨rfl,hpl⟩ | ⟨rfl,hpl⟩
    ·have HPL:=hZ hpl
     clear hpl;by_cases hr:(0:Int)<(rest2.n:Int)
     ·have k8:decide ((0:Int)<(rest2.n:Int))=true:=by simpa using hr
      go_upto_region 10 with fail;refine X12 ?_;refine Xj8 ?_;refine Xiz ?_;refine Xjs ?_;refine X6 ?_;refine Xjl ?_;refine X6 ?_;refine xac rfl _ (xbq _ _ rfl _ _ rfl rfl k8) ?_;refine X28 ?_;go_upto_region 11 with fail;refine Xib ?_;refine X6 ?_;refine X4v ?_;refine X33 ?_;clear HL;intro w HL;refine X1f ?_;go_wp2_with fail;refine Xc ?_;refine Xjt ?_;refine⟨D32.z,Sv.nil,11,rfl,HL.below,.inr ⟨rfl,?_⟩⟩;rw[← HQ2.out];unfold rdM;rw[if_neg (by have h1:=HKL.out;have h2:=HBL.out;omega)];rw[HKL.out,HPL.out]
      cases bs2 with
      | nil=>have h3:=hB2.s.len;simp only[qs] at h3;omega
      | cons b2 bs2=>rfl
     ·have k8:decide ((0:Int)<(rest2.n:Int))=false:=by simpa using hr
      have hb0:bs2 = []:=List.eq_nil_of_length_eq_zero (by have h3:=hB2.s.len;omega);subst hb0;go_upto_region 10 with fail;refine X12 ?_;refine Xj8 ?_;refine Xiz ?_;refine Xjs ?_;refine X6 ?_;refine Xjl ?_;refine X6 ?_;refine xac rfl _ (xbq _ _ rfl _ _ rfl rfl k8) ?_;refine X28 ?_;go_upto_region 12 with fail;refine X14 ?_;refine xaa rfl _ (xaf xnc _ rfl _ rfl) ?_;refine X6 ?_;refine Xju ?_;refine X6 ?_;refine xaa rfl _ (xb3 underlying128 _ rfl _ _ _ rfl) ?_;refine X1e ?_;obtain⟨MM,hMM⟩:∃ MM,0+2*(bs.length - ([]:List Brv).length)=MM:=⟨_,rfl⟩;rw[hMM] at hW;have hMMb:MM≤200000:=by rw[← hMM];omega
      clear hMM;go_wp2_with fail
      go_loopw [73] (fun z wr=>∃ (i:Nat)(Gs:BL),i≤n∧z=.int .i64 (i:Int)∧Wys MM Gs xs∧Loc w0 (Old w0) ((g9,23,h.c)::(g4,23,D32.z.c)::(g3,44,[Sv.v ps])::(gr,199,rdrC rest2 tagE ⟨aS gw,n,n⟩)::(gw,34,xs.flatMap Prv.cells)::(Gs++[])) wr) (fun z _=>(n - intOf z).toNat)
      case atStart=>exact⟨0,Gs,Nat.zero_le _,rfl,hW,HL⟩
      case round =>
       clear HL hW Gs;obtain⟨i,Gs,hi,rfl,hW,HL⟩:=hrel;obtain⟨w,rfl⟩:=eW wr;by_cases hlt:i<n
       ·have k13:decide ((i:Int)<(n:Int))=true:=by simp;omega
        refine Xam ?_;intro HI;have hix:i<xs.length:=by have:=HXL.out;omega
        obtain⟨GA,G,GB,ys,x,zs,ds,e1,e2,e3,hWA,hG,hdm,hWB⟩:=hW.split i hix;have hget:=xii Prv.len xs [] i 0 hix (by decide);have hxi:xs[i]=x:=by subst e2;subst e3;simp
        rw[List.append_nil,hxi,Prv.g_sides,Nat.add_zero] at hget;have HX:Loc w0 (Old w0) (((g9,23,h.c)::(g4,23,D32.z.c)::(g3,44,[Sv.v ps])::(gr,199,rdrC rest2 tagE ⟨aS gw,n,n⟩)::(gw,34,xs.flatMap Prv.cells)::GA)++(G++(GB++[]))) w:=by rw[e1] at HL;simpa[List.append_assoc] using HL
        have E2:=hZ e2;clear e1 hxi e2 e3;go_upto_region 13 with fail;refine Xt ?_;refine xaa rfl _ (xax _ _ rfl _ _ rfl rfl k13) ?_;refine X1z ?_;go_upto_region 14 with fail;refine X7v ?_;go_upto_region 15 with fail;refine X14 ?_;refine xaa rfl _ (xaf xnc _ rfl _ rfl) ?_;refine X6 ?_;refine Xju ?_;refine X15 ?_;refine xaa rfl _ (xap sl128 _ _ rfl gw n n i .i64 rfl rfl hlt) ?_;refine X6 ?_;refine xaa rfl _ (xer xqs _ rfl _ _ rfl) ?_;refine X6 ?_;refine xaa rfl _ (xai sc29 HL _ rfl _ _ rfl _ _ _ (.tail _ (.tail _ (.tail _ (.tail _ (.head _))))) hget) ?_;refine X50 ?_;intro K hK;refine xad cf110 rfl _ rfl ?_;refine X1w ?_;(with_reducible refine(rev_way x.sides ds _ hG (by omega) HX).mono ?_);rintro e w ⟨rfl,G',hG',HX'⟩;clear HL HX;refine X20 ?_;clear hK K;go_upto_region 16 with fail
        refine Xce ?_;go_wp2_with fail;go_roundw
        case rel =>
         refine⟨i+1,GA++(G'++GB),by omega,rfl,?_,by simpa[List.append_assoc] using HX'⟩;rw[E2.out];exact hWA.app (.cons (ds:=ds.reverse) (by rw[List.length_reverse];exact hG') (by rw[List.length_reverse];exact hdm) hWB)
        case measure=>simp[intOf]<;>omega
       ·have k13:decide ((i:Int)<(n:Int))=false:=by simp;omega
        go_upto_region 13 with fail;refine Xt ?_;refine xaa rfl _ (xax _ _ rfl _ _ rfl rfl k13) ?_;refine X1z ?_;obtain⟨HX,hb4,hn4,hne4⟩:=HL.out (L0:=[_]);clear HL;have HL:=HX;clear HX;simp only[qm,qn] at HL hne4;go_upto_region 17 with fail;refine rB (Loc.P HL) [] [5] [0,1,2,3,4,5,6,7] 0 ?_;refine X3a ?_;intro HL;refine X5s ?_;refine X3h ?_;refine Xip ?_;refine X6 ?_;refine xab rfl rfl HL (fun W hW=>xai sc128 hW _ rfl _ _ rfl _ _ _ (.tail _ (.tail _ (.head _))) (xrg _ _ _)) ?_;refine Xh ?_;intro K hK;refine xbe ag23.i _ _ rfl g4 0 23 _ _ rfl rfl hb4.drew (D32.cl _) (by rw[D32.cl];decide) (D32.c1 _) ?_;intro w' hb' hg' _;replace HL:=HL.aside hg' hn4 hne4;replace hb4:=splice_d hb';refine X3x ?_;clear hK K;refine X4q ?_;go_wp2_with fail;refine Xc ?_
        refine bodyPost_ret (xn5 rfl ag23 _ _ g4 23 _ rfl hb4 (D32.cl _)) rfl ?_;have hnew:∀ y∈(gw,34,xs.flatMap Prv.cells)::(Gs++[]),w0.heap.size≤y.1:=fun y hy=>Nat.le_of_not_lt (HL.own y (.tail _ (.tail _ (.tail _ hy)))).1
        refine⟨h,⟨aS gw,n,n⟩,0,rfl,HL.below,.inl ⟨rfl,?_,xs,?_,HXL.out,rfl,Nat.le_refl _,fun ad e=>by cases e;exact hnew _ (.head _),hW.out HL (fun y hy=>by simp[hy]) (fun y hy=>hnew y (by simp[hy]))⟩⟩
        ·rw[← HQ2.out]
         unfold rdM;rw[if_neg (by have h1:=HKL.out;have h2:=HBL.out;omega),HKL.out,HPL.out]
        ·exact Rd.of_blk0 (es:=[]) (by rw[List.append_nil];exact HL.blk (.tail _ (.tail _ (.tail _ (.head _)))))
    ·have HPL:=hZ hpl
     clear hpl;go_upto_region 10 with fail;refine X12 ?_;refine Xja ?_;refine Xak ?_;refine no_implicit_lambda% (X2f ?_);go_upto_region 11 with fail;refine Xib ?_;refine X6 ?_;refine X4v ?_;refine X33 ?_;clear HL;intro w HL;refine X1f ?_;go_wp2_with fail;refine Xc ?_;refine Xjt ?_;refine⟨D32.z,Sv.nil,11,rfl,HL.below,.inr ⟨rfl,?_⟩⟩;rw[← HQ2.out];unfold rdM;rw[if_neg (by have h1:=HKL.out;have h2:=HBL.out;omega)];rw[HKL.out,HPL.out]
end
def MtO(N:Nat)(w0:World)(q:Option D32)(e:Ending)(w':World):Prop:=∃ (h:D32)(er:Int),e=.returned (.tuple #[h.a,iV er])∧Below N w0 w'∧((er=0∧q=some h)∨((er==0)=false∧q=none))
section
variable {w w':World}
theorem xrq(A:Option Addr)(n c:Nat)(ks:List D32)(ps:Sv)(bs:List Brv)(w:World)(hK:KyS w A n c ks)(hB:BrS w ps bs)(hnn:n≤140737488351232):Calls prog 10 #[.slice A n c,mval ps] w (MtO w.heap.size w (rdQ ks bs)):=by
 have HKS:=hZ hK;have HBS:=hZ hB;clear hK hB;obtain⟨w0,rfl,HL⟩:=lS w;go_enter func10,ntmps10;go_upto_region 0 with fail;refine X39 ?_;clear HL;intro g3 w HL;refine X6 ?_;refine xah zr23 rfl rfl HL ?_;clear HL;intro g4 w HL;refine X1a ?_;go_upto_region 1 with fail;refine X12 ?_;refine Xjv ?_;refine X50 ?_;intro K hK;refine xad cf57 rfl _ rfl ?_;refine X1w ?_;refine Xjw ?_;rintro e w ⟨h,ways,er,rfl,hb,hx⟩;replace HL:=HL.next hb;clear hb;refine X8d ?_;clear hK K;refine xah zr23 rfl rfl HL ?_;clear HL;intro g6 w HL;refine X5p ?_;refine X33 ?_;clear HL;intro w HL;refine X1f ?_;go_upto_region 2 with fail;refine Xt ?_;refine Xjg ?_;refine X15 ?_;refine Xj5 ?_;clear HL;intro w HL;go_wp2_with fail;refine Xc ?_;refine bodyPost_ret (xay rfl ag23 _ _ g4 23 _ rfl (HL.blk (.tail _ (.head _))) (D32.cl _)) rfl ?_
 refine⟨h,er,rfl,HL.below,?_⟩;rcases hx with⟨h1,h2,_⟩ | ⟨h1,h2⟩
 ·exact .inl ⟨h1,h2⟩
 ·exact .inr ⟨h1,h2⟩
end
end Go.Proofs.YtkjjdgnkelchfaaGreat
