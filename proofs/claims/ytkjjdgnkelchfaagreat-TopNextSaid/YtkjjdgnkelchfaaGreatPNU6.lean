import Derived.Test.YtkjjdgnkelchfaaGreatPNU5
set_option linter.unusedSimpArgs false
set_option linter.unusedVariables false
set_option maxRecDepth 100000
set_option maxHeartbeats 16000000
namespace Go.Proofs.YtkjjdgnkelchfaaGreat
open Go Go.RowKit Go.Proofs.Tryz
def Gw(E z:Nat)(G:BL)(v:Sv)(n:Nat)(xs:List Value):Prop :=
 xs.length=n*z∧((G = []∧v=Sv.nil∧n=0)∨∃ g cap tl,G = [(g,E,xs++tl)]∧v=⟨aS g,n,cap⟩∧n≤cap∧cap≤maxLen∧(xs++tl).length=cap*z)
theorem Gw.nil(E z:Nat):Gw E z [] Sv.nil 0 []:=⟨by simp,.inl ⟨rfl,rfl,rfl⟩⟩
theorem Gw.zero(E z g:Nat):Gw E z [(g,E,[])] ⟨aS g,0,0⟩ 0 []:=⟨by simp,.inr ⟨g,0,[],rfl,rfl,Nat.le_refl _,by unfold maxLen;omega,by simp⟩⟩
theorem Gw.len{E z n:Nat}{G:BL}{v:Sv}{xs:List Value}(h:Gw E z G v n xs):v.n=n:=by
 obtain⟨_,⟨_,rfl,rfl⟩ | ⟨g,cap,tl,_,rfl,_,_,_⟩⟩:=h<;>rfl
theorem Gw.cap{E z n:Nat}{G:BL}{v:Sv}{xs:List Value}(h:Gw E z G v n xs):v.n≤v.c∧v.c≤maxLen:=by
 obtain⟨_,⟨_,rfl,rfl⟩ | ⟨g,cap,tl,_,rfl,h2,h3,_⟩⟩:=h
 ·exact⟨Nat.le_refl _,by show 0≤_;omega⟩
 ·exact⟨h2,h3⟩
section
variable {P:Program}{T E:TypeId}{z b:Nat}{zv:Value}{w0 w:World}{D:Nat→Prop}{L L0 L1 G:BL}{ops:Array Oper}{rest:List Oper}{o:Oper}{a:Act}{K:Act→World→Prop}{Q:Exit→Act→World→Prop}
theorem Gw.rd{n:Nat}{v:Sv}{xs:List Value}(h:Gw E z G v n xs)(H:Loc w0 D (L0++(G++L1)) w):Rd w v.A xs:=by
 obtain⟨hl,⟨rfl,rfl,rfl⟩ | ⟨g,cap,tl,rfl,rfl,h1,h2,h3⟩⟩:=h
 ·have:xs = []:=List.eq_nil_of_length_eq_zero (by rw[hl];omega)
  subst this;exact Rd.nil _ _
 ·exact Rd.of_blk0 (H.blk (g:=g) (t:=E) (cs:=xs++tl) (by simp))
theorem Gw.owns{n:Nat}{v:Sv}{xs:List Value}(h:Gw E z G v n xs)(H:Loc w0 D (L0++(G++L1)) w):w.ownsRow 0 E z v.v n xs:=by
 obtain⟨hl,⟨rfl,rfl,rfl⟩ | ⟨g,cap,tl,rfl,rfl,h1,h2,h3⟩⟩:=h
 ·exact⟨hl,.inl ⟨rfl,rfl⟩⟩
 ·refine⟨hl,.inr ⟨g,cap,(xs++tl).toArray,rfl,Nat.zero_le _,H.blk (g:=g) (t:=E) (cs:=xs++tl) (by simp),h1,h2,by simpa using h3,?_⟩⟩
  show(xs++tl).take (n*z)=xs;rw[List.take_append_of_le_length (by omega),List.take_of_length_le (by omega)]
theorem xqm{g t:Nat}{cs:List Value}(h:(L0++L1).Pairwise (fun x y=>x.1≠y.1))(hn:∀ y∈L0++L1,y.1≠g):(L0++([(g,t,cs)]++L1)).Pairwise (fun x y=>x.1≠y.1):=by
 obtain⟨p1,p2,p3⟩:=List.pairwise_append.1 h;refine List.pairwise_append.2 ⟨p1,List.pairwise_cons.2 ⟨fun y hy e=>hn y (by simp[List.mem_append.2 (.inr hy)];exact .inr hy) e.symm,p2⟩,?_⟩;intro x hx y hy;rcases List.mem_cons.1 hy with rfl | hy
 ·exact hn x (List.mem_append.2 (.inl hx))
 ·exact p3 x hx y hy
theorem Gw.grow{n m:Nat}{v v':Sv}{xs ys:List Value}{w':World}(hG:Gw E z G v n xs)(H:Loc w0 D (L0++(G++L1)) w)(hm:0<m)(hown:w'.ownsRow 0 E z v'.v (n+m) (xs++ys))(hg:w.grownBy w' v.v.ownBlock)
  (hb:∀ k,v'.v.ownBlock=some k→v.v.ownBlock=some k∨k=w.heap.size):∃ G',Gw E z G' v' (n+m) (xs++ys)∧Loc w0 D (L0++(G'++L1)) w':=by
 obtain⟨hl',⟨_,h0⟩ | ⟨g',cap',cur,hv',_,hk,hn',hm',hs',ht'⟩⟩:=hown
 ·omega
 have hsub:(L0++L1).Sublist (L0++(G++L1)):=List.Sublist.append (List.Sublist.refl _) (sA _ _);have hcur:cur.toList=(xs++ys)++cur.toList.drop ((n+m)*z):=by rw[← ht',List.take_append_drop]
 have hblk:Blk w' g' E ((xs++ys)++cur.toList.drop ((n+m)*z)):=by
  unfold Blk;rw[hk,← hcur]
 have hnew : ¬ D g'∧∀ y∈L0++L1,y.1≠g':=by
  have h1:=hb g' (by rw[hv'];rfl)
  have h2:g'=w.heap.size→¬ D g'∧∀ y∈L0++L1,y.1≠g':=by
   intro e;refine⟨fun hd=>by have:=H.lt hd;omega,fun y hy e2=>?_⟩;have:=(H.own y (hsub.subset hy)).2.lt;omega
  rcases h1 with h1 | h1
  ·obtain⟨_,⟨rfl,rfl,rfl⟩ | ⟨g,cap,tl,rfl,rfl,_,_,_⟩⟩:=hG
   ·cases h1
   ·have e:g=g':=by injection h1
    subst e;refine⟨(H.own (g,E,xs++tl) (by simp)).1,fun y hy e2=>?_⟩;obtain⟨p1,p2,p3⟩:=List.pairwise_append.1 H.nd;obtain⟨p4,p5⟩:=List.pairwise_cons.1 p2;rcases List.mem_append.1 hy with hy | hy
    ·exact p3 y hy (g,E,xs++tl) (by simp) e2
    ·exact p4 y hy e2.symm
  ·exact h2 h1
 have hold:∀ k,v.v.ownBlock=some k→¬ D k∧∀ y∈L0++L1,y.1≠k:=by
  intro k e;obtain⟨_,⟨rfl,rfl,rfl⟩ | ⟨g,cap,tl,rfl,rfl,_,_,_⟩⟩:=hG
  ·cases e
  ·have e:g=k:=by injection e
   subst e;refine⟨(H.own (g,E,xs++tl) (by simp)).1,fun y hy e2=>?_⟩;obtain⟨p1,p2,p3⟩:=List.pairwise_append.1 H.nd;obtain⟨p4,p5⟩:=List.pairwise_cons.1 p2;rcases List.mem_append.1 hy with hy | hy
   ·exact p3 y hy (g,E,xs++tl) (by simp) e2
   ·exact p4 y hy e2.symm
 refine⟨[(g',E,(xs++ys)++cur.toList.drop ((n+m)*z))],⟨hl',.inr ⟨g',cap',_,rfl,?_,hn',hm',?_⟩⟩,?_,?_,?_,H.old⟩
 ·cases v'
  simp only[Sv.v] at hv';injection hv' with e1 e2 e3;subst e1 e2 e3;rfl
 ·rw[← hcur];simpa using hs'
 ·exact H.fr.grown hg (fun k e=>.inl (hold k e).1)
 ·intro x hx
  rcases List.mem_append.1 hx with hx1 | hx1
  ·have hx2:=H.own x (hsub.subset (List.mem_append.2 (.inl hx1)))
   exact⟨hx2.1,hx2.2.grown hg (fun e=>(hold x.1 e.symm).2 x (List.mem_append.2 (.inl hx1)) rfl)⟩
  ·rcases List.mem_cons.1 hx1 with rfl | hx1
   ·exact⟨hnew.1,hblk⟩
   ·have hx2:=H.own x (hsub.subset (List.mem_append.2 (.inr hx1)))
    exact⟨hx2.1,hx2.2.grown hg (fun e=>(hold x.1 e.symm).2 x (List.mem_append.2 (.inr hx1)) rfl)⟩
 ·exact xqm (H.nd.sublist hsub) hnew.2
theorem xan(B:ST P T E z)(I:ET P E zv z b)(s x:Operand)(ho:o.op=.call { callee:=.builtin .append,args:=#[s,x],argTypes:=#[T,T] })(L0:BL)(n:Nat)(v:Sv)(xs:List Value)(hG:Gw E z G v n xs)(H:Loc w0 D (L0++(G++L1)) w)(hs:a.eval s=v.v)
  (ad:Addr) (m c:Nat) (ys:List Value) (hx:a.eval x=.slice (some ad) m c) (hr:Rd w (some ad) ys) (hy:ys.length=m*z) (h1:∀ u∈ys,u.oneCell'=true) (hm:0<m) (hbytes:(n+m)*b≤140737488355328) (h63:n+m≤140737488355328)
  (h:∀ (v':Sv) G' w',Gw E z G' v' (n+m) (xs++ys)→Loc w0 D (L0++(G'++L1)) w'→K (a.put o.dst v'.v) w'):o.wp P a w K Q:=by
 refine xes B I s x ho v n xs hs (hG.owns H) ad m c ys hx hr hy h1 hm hbytes h63 ?_;intro v' w' h2 h3 h4 _;obtain⟨G',h5,h6⟩:=hG.grow H hm h2 h3 h4;exact h v' G' w' h5 h6
theorem xjh(B:ST P T E z)(I:ET P E zv z b)(ty:TypeId)(v:Sv)(hv:v.n≤v.c)(A:Option Addr)(c:Nat):(Builtin.append_ #[T,T] ty #[v.v,.slice A 0 c]).run P w=.ok v.v w:=by
 obtain⟨i,hi,hzz,hsz,_⟩:=info_parts I.i;obtain⟨B1,n,c1⟩:=v;have hv' : ¬ c1<n:=by have:n≤c1:=hv;omega
 cases A<;>cases B1<;>simp[Sv.v,Builtin.append_,run_underlying B.t,sizeOf,typeInfo,hi,Builtin.lenOf,Builtin.firstCells,loadCells,loadCellsFrom,storeCells,hv']
theorem xbh(B:ST P T E z)(I:ET P E zv z b)(s x:Operand)(ho:o.op=.call { callee:=.builtin .append,args:=#[s,x],argTypes:=#[T,T] })(L0:BL)(n:Nat)(v:Sv)(xs:List Value)(hG:Gw E z G v n xs)(H:Loc w0 D (L0++(G++L1)) w)(hs:a.eval s=v.v)
  (A:Option Addr) (m c:Nat) (ys:List Value) (hx:a.eval x=.slice A m c) (hr:Rd w A ys) (hy:ys.length=m*z) (h1:∀ u∈ys,u.oneCell'=true) (hbytes:(n+m)*b≤140737488355328) (h63:n+m≤140737488355328)
  (h:∀ (v':Sv) G' w',Gw E z G' v' (n+m) (xs++ys)→Loc w0 D (L0++(G'++L1)) w'→K (a.put o.dst v'.v) w'):o.wp P a w K Q:=by
 by_cases h0:m=0
 ·subst h0
  have:ys = []:=List.eq_nil_of_length_eq_zero (by omega);subst this;have hrun:=xjh (w:=w) B I o.type v hG.cap.1 A c;unfold Oper.wp execOp;simp only[ho,resolve,invoke,builtin,Sem.run_bind,Sem.run_pure,Result.andThen_ok,List.map_toArray,qk,ql,hs,hx,hrun];exact h v G w (by simpa using hG) H
 ·have hp:=I.p
  obtain⟨ad,rfl,_⟩:=hr (by rw[hy];exact Nat.mul_pos (by omega) hp);exact xan B I s x ho L0 n v xs hG H hs ad m c ys hx hr hy h1 (by omega) hbytes h63 h
theorem xds(B:ST P T E z)(I:ET P E zv z b)(ho:o.op=.buildSlice T 0 #[])(H:Loc w0 D L w)(h:∀ g w',Loc w0 D ((g,E,[])::L) w'→K (a.put o.dst (.slice (aS g) 0 0)) w'):o.wp P a w K Q:=by
 obtain⟨i,hi,hzz,hsz,_⟩:=info_parts I.i;have hp:=I.p
 have hr:(Instr.buildSlice T 0 #[]).run P w=.ok (.slice (some ⟨w.heap.size,0,none⟩) 0 0) (w.alloc (.cells #[] E)):=by
  simp[Instr.buildSlice,run_underlying B.t,sizeOf,typeInfo,hi,newRow,Instr.fill];rw[show Array.range 0=#[] by decide,Array.map_empty]
 unfold Oper.wp execOp;simp only[ho,Sem.run_bind,List.map_toArray,ql,Array.map_empty,hr,Result.andThen_ok];exact h _ _ (H.new E [])
theorem xeu(B:ST P T E 1)(I:ET P E zv 1 b)(n:Nat)(parts:Array (Nat×Operand))(ho:o.op=.buildSlice T n parts)(H:Loc w0 D L w)(vs:List Value)(h1:∀ u∈vs,u.oneCell'=true)(hn:vs.length=n)(h0:0<n)(hm:n≤10000)
  (hx:(parts.map fun(i,x)=>(i,a.eval x)).toList=(vs.zipIdx 0).map fun x=>(x.2,x.1)) (h:∀ g w',Loc w0 D ((g,E,vs)::L) w'→K (a.put o.dst (.slice (aS g) n n)) w'):o.wp P a w K Q:=by
 obtain⟨i,hi,hzz,hsz,_⟩:=info_parts I.i;refine wp_buildSlice T E n _ ho vs.toArray i _ B.t hi hzz (by rw[hsz];omega) (by rw[hsz];omega) ?_ (h _ _ (H.new E vs));have hc:∀ v∈vs,v.cells=#[v]:=fun v hv=>by have:=h1 v hv;cases v<;>first | rfl | (simp[Value.oneCell'] at this)
 rw[hx,hsz,Great.fill_whole (by omega) _ _ ?_ ?_]
 ·congr 2
  clear hx hn h
  induction vs with
  | nil=>rfl
  | cons v vs ih =>
   rw[List.flatMap_cons,hc v (by simp),ih (fun u hu=>h1 u (by simp[hu])) (fun u hu=>hc u (by simp[hu]))];rfl
 ·intro u hu
  rw[hc u hu];rfl
 ·simp[hn]
theorem Loc.perm(H:Loc w0 D L w){L':BL}(hp:L'.Perm L):Loc w0 D L' w :=
 ⟨H.fr,fun x hx=>H.own x (hp.subset hx),(hp.symm.pairwise H.nd (fun h e=>h e.symm)),H.old⟩
theorem Loc.took{w':World}{v:Value}{l:LU}(H:Loc w0 D L w)(hb:Bw w w')(ho:OwnB w' w.heap.size E v l):∃ G sv,v=Sv.v sv∧Gw E 1 G sv l.length (bvs l)∧Loc w0 D (L++(G++[])) w':=by
 have H':=H.next hb;rcases ho with⟨rfl,rfl⟩ | ⟨g,sp,rfl,hg,hm,hk⟩
 ·exact⟨[],Sv.nil,rfl,Gw.nil _ _,by simpa using H'⟩
 ·refine⟨[(g,E,bvs l++bvs sp)],⟨aS g,l.length,l.length+sp.length⟩,rfl,⟨by simp[bvs],.inr ⟨g,l.length+sp.length,bvs sp,rfl,rfl,by omega,hm,by simp[bvs]⟩⟩,H'.fr,?_,?_,H'.old⟩
  ·intro x hx
   rcases List.mem_append.1 hx with hx | hx
   ·exact H'.own x hx
   ·simp at hx
    subst hx;exact⟨fun hd=>by have:=H.lt hd;omega,by rw[← xd6];exact hk⟩
  ·refine List.pairwise_append.2 ⟨H'.nd,by simp,fun x hx y hy e=>?_⟩
   simp at hy;subst hy;have:=(H.own x hx).2.lt;have e':x.1=g:=e;omega
theorem xt8(B:W1 P T)(x y:Operand)(ho:o.op=.store T x y)(H:Loc w0 D L w)(i g k t:Nat)(cs cs':List Value)(v:Value)(hx:a.eval x=.pointer (some ⟨g,k,none⟩))(hL:L[i]? = some (g,t,cs))
  (hy:a.eval y=v) (h1:v.oneCell'=true) (hf:k<cs.length) (hc:cs.set k v=cs') (h:∀ w',Loc w0 D (L.set i (g,t,cs')) w'→K (a.put o.dst undef) w'):o.wp P a w K Q:=by
 have hb:=H.blk (List.mem_of_getElem? hL);refine xcn B.i x y ho g k t cs v hx hy h1 hb hf (h _ ?_);refine H.putAt hL ?_ (xdl _ _ _ _);rw[← hc];exact hb.set_ k v
theorem xfg{n:Nat}(hi:AT P T n)(x y:Operand)(ho:o.op=.store T x y)(H:Loc w0 D L w)(i g k t:Nat)(cs vs cs':List Value)(hx:a.eval x=.pointer (some ⟨g,k,none⟩))(hL:L[i]? = some (g,t,cs))
  (hy:a.eval y=.agg vs.toArray) (hn:vs.length=n) (hf:k+n≤cs.length) (h1:∀ u∈vs,u.oneCell'=true) (hc:splice cs k vs=cs') (h:∀ w',Loc w0 D (L.set i (g,t,cs')) w'→K (a.put o.dst undef) w'):o.wp P a w K Q:=by
 refine xbe hi.i x y ho g k t cs vs hx hy (H.blk (List.mem_of_getElem? hL)) hn hf h1 fun w' hb hg _=>h w' ?_
 rw[hc] at hb;exact H.putAt hL hb hg
end
section
variable {P:Program}{T E:TypeId}{w0 w1 w w':World}{D:Nat→Prop}{L L0 L1:BL}{ops:Array Oper}{rest:List Oper}{o:Oper}{a:Act}{K:Act→World→Prop}{Q:Exit→Act→World→Prop}
theorem Loc.out{x:Nat×Nat×List Value}(H:Loc w0 D (L0++(x::L1)) w):Loc w0 D (L0++L1) w∧Blk w x.1 x.2.1 x.2.2∧¬ D x.1∧∀ y∈L0++L1,y.1≠x.1:=by
 have hsub:(L0++L1).Sublist (L0++(x::L1)):=List.Sublist.append (List.Sublist.refl _) (sB _ _);have h1:=H.own x (by simp);refine⟨H.drop _ hsub,h1.2,h1.1,fun y hy e=>?_⟩;obtain⟨p1,p2,p3⟩:=List.pairwise_append.1 H.nd;rcases List.mem_append.1 hy with hy | hy
 ·exact p3 y hy x (by simp) e
 ·exact(List.pairwise_cons.1 p2).1 y hy e.symm
theorem Loc.aside(H:Loc w0 D L w){g:Nat}(hg:w.grownBy w' (some g))(hD : ¬ D g)(hn:∀ y∈L,y.1≠g):Loc w0 D L w' :=
 H.frame (T:=(· = g)) ((Fr.refl (· = g) w).grown hg (fun k hk=>.inl (by cases hk;rfl))) (fun k hk=>hk▸hD) (fun x hx=>hn x hx)
theorem Loc.putF(H:Loc w0 D L w){i g t:Nat}{cs cs':List Value}(hL:L[i]? = some (g,t,cs))(hb:Blk w' g t cs')(hf:Fr (· = g) w w'):Loc w0 D (L.set i (g,t,cs')) w':=by
 have hi:i<L.length:=(List.getElem?_eq_some_iff.1 hL).1;have hm:(g,t,cs)∈L:=List.mem_of_getElem? hL;have hgD:=(H.own _ hm).1;have e:L.set i (g,t,cs')=L.take i++(g,t,cs')::L.drop (i+1):=List.set_eq_take_append_cons_drop▸by rw[if_pos hi]
 have e0:L=L.take i++(g,t,cs)::L.drop (i+1):=by
  have h3:L[i]=(g,t,cs):=by rw[List.getElem?_eq_getElem hi] at hL;simpa using hL
  rw[← h3,List.getElem_cons_drop,List.take_append_drop]
 have H0:=H;rw[e0] at H0;obtain⟨h1,_,_,h4⟩:=H0.out;have h5:=h1.frame (T:=(· = g)) hf (fun k hk=>hk▸hgD) (fun x hx=>h4 x hx);rw[e];refine⟨h5.fr,?_,?_,H.old⟩
 ·intro x hx
  rcases List.mem_append.1 hx with hx | hx
  ·exact h5.own x (List.mem_append.2 (.inl hx))
  ·rcases List.mem_cons.1 hx with rfl | hx
   ·exact⟨hgD,hb⟩
   ·exact h5.own x (List.mem_append.2 (.inr hx))
 ·have:=xqm (g:=g) (t:=t) (cs:=cs') h5.nd h4
  simpa using this
theorem Loc.back(H1:Loc w0 (Old w0) L0 w1)(H2:Loc w1 (Rest w1 L0) L w):Bw w0 w:=by
 have hr:∀ k,k<w0.heap.size→Rest w1 L0 k:=fun k hk=>⟨Nat.lt_of_lt_of_le hk H1.fr.size,fun x hx e=>(H1.own x hx).1 (by rw[e];exact hk)⟩
 refine Fr.to_below (S:=fun k=>¬ Rest w1 L0 k) ⟨H2.fr.os.trans H1.fr.os,H2.fr.tape.trans H1.fr.tape,H2.fr.output.trans H1.fr.output,Nat.le_trans H1.fr.size H2.fr.size,fun k hk hn=>?_⟩ (fun k hk hn=>absurd (hr k hk) hn);exact(H2.fr.block k (Nat.lt_of_lt_of_le hk H1.fr.size) hn).trans (H1.fr.block k hk (fun n=>n hk))
theorem xdh(B:W1 P T)(x:Operand)(ho:o.op=.load T x)(ad:Addr)(i:Nat)(vs:List Value)(v:Value)(hx:a.eval x=.pointer (some (ad.add i)))(hr:Rd w (some ad) vs)(hv:vs[i]? = some v) :
  (execOp a.eval o).run P w=.ok (.value v) w:=by
 obtain⟨d,hu,hd⟩:=B.u;have hi:=(List.getElem?_eq_some_iff.1 hv).1;obtain⟨ad',e,hc⟩:=hr (by omega);cases e;exact xb6 hu hd x ho _ _ hx (hc i v hv)
end
end Go.Proofs.YtkjjdgnkelchfaaGreat
namespace Go.Proofs.YtkjjdgnkelchfaaGreat
open Go Go.RowKit Go.ChangeShapes Go.WideShapes Go.ChangeAt Go.Proofs.Tryz
section
variable {P:Program}(w:World)
end
section
variable {P:Program}{H:Type}{enc:TypeId×Value→H}{W:World}{base:Nat}
end
theorem ab25:AB prog 23 32:=⟨⟨5,underlying23,underlying5,by kernel_rfl⟩,by kernel_rfl⟩
end Go.Proofs.YtkjjdgnkelchfaaGreat
namespace Go.Proofs.YtkjjdgnkelchfaaGreat
open Go Go.RowKit Go.Proofs.Tryz
def digL:LU:=[48,49,50,51,52,53,54,55,56,57,97,98,99,100,101,102]
def dig(k:Nat):UInt8:=digL.getD k 0
def hexs(l:LU):LU:=l.flatMap fun x=>[dig (x.toNat / 16),dig (x.toNat%16)]
def hexL(l:LU):LU:=if l.length=0 then [45] else hexs l
theorem xi5(l:LU):(hexs l).length=2*l.length:=by
 induction l with
 | nil=>rfl
 | cons x l ih =>
  unfold hexs at ih ⊢;rw[List.flatMap_cons,List.length_append,ih]
  simp;omega
theorem xt9(l:LU)(k:Nat)(h:k<l.length):hexs (l.take (k+1))=hexs (l.take k)++[dig ((l[k]).toNat / 16),dig ((l[k]).toNat%16)]:=by
 rw[List.take_succ_eq_append_getElem h];unfold hexs;rw[List.flatMap_append];simp
section
variable {P:Program}{w:World}{ops:Array Oper}{o:Oper}{a:Act}{Q:Exit→Act→World→Prop}
theorem xe1{T:TypeId}(hT:P.underlying T=some .string)(x i:Operand)(ho:o.op=.index T x i)(t:LU)(hx:a.eval x=.string ⟨t.toArray⟩)(k:IntKind)(j:Nat)(hi:a.eval i=.int k (j:Int))(h:j<t.length) :
  (execOp a.eval o).run P w=.ok (.value (.int .u8 ((t[j]).toNat:Int))) w:=by
 have hs:(0:Int)≤(j:Int)∧(j:Int)<((⟨t.toArray⟩:ByteArray).size:Int):=⟨by omega,by
  show(j:Int)<((t.toArray.size:Nat):Int)
  simp;exact h⟩
 have hr:=run_index_string (P:=P) w T ⟨t.toArray⟩ k (j:Int) hT;rw[dif_pos hs] at hr;unfold execOp;simp only[ho,hx,hi,Sem.run_bind,hr,Result.andThen_ok,Sem.run_pure];rfl
theorem xji{T E S:TypeId}(B:BT P T E S)(ty g:Nat)(l sp:LU)(hb:Blk w g E (bvs (l++sp)))(A:Option Addr)(m c:Nat)(y:LU)(hy:y.length=m)(hr:Rd w A (bvs y))(h0:0<m)(hm:m≤sp.length)(hmax:l.length+sp.length≤maxLen) :
  ∃ w',(Builtin.append_ #[T,T] ty #[.slice (aS g) l.length (l.length+sp.length),.slice A m c]).run P w=.ok (.slice (aS g) (l.length+m) (l.length+sp.length)) w' ∧
   Blk w' g E (bvs (l++y++sp.drop m))∧w.grownBy w' (some g)∧w'.heap.size=w.heap.size:=by
 obtain⟨i,hi,hz,hsz,hbb⟩:=info_parts B.i;subst hy;obtain⟨ad,rfl,hc⟩:=hr (by rw[xae];exact h0);have hml:(maxLen:Nat)=9223372036854775807:=rfl;have hrun:=run_append_room (P:=P) w T ty E i B.t hi g l.length (l.length+sp.length) (bvs (l++sp)).toArray hb ad y.length c (bvs y) (by simp[bvs,hsz]) hc (xb0 _) (by omega) (by simp[bvs,hsz];omega)
 have e:((bvs (l++sp)).toArray.toList.take (l.length*i.size)++bvs y++(bvs (l++sp)).toArray.toList.drop (l.length*i.size+(bvs y).length))=bvs (l++y++sp.drop y.length):=by
  simp only[bvs,hsz,List.map_append,Nat.mul_one,List.length_map];congr 1
  ·congr 1
   exact List.take_left' (by simp)
  ·rw[List.drop_append,List.map_drop];simp
 have h1:=hb.row (bvs (l++y++sp.drop y.length));rw[e] at hrun;exact⟨_,hrun,h1,xdv w g _,by simp⟩
theorem xkl{T E S:TypeId}(B:BT P T E S){K:Act→World→Prop}(s x:Operand)(ho:o.op=.call { callee:=.builtin .append,args:=#[s,x],argTypes:=#[T,T] })(g:Nat)(l sp:LU)(n cap:Nat)(hn:l.length=n)(hcap:l.length+sp.length=cap)
  (hs:a.eval s=.slice (aS g) n cap) (hb:Blk w g E (bvs (l++sp))) (A:Option Addr) (m c:Nat) (y:LU) (hx:a.eval x=.slice A m c) (hy:y.length=m) (hr:Rd w A (bvs y)) (h0:0<m) (hm:m≤sp.length) (hmax:cap≤maxLen)
  (h:∀ w',Blk w' g E (bvs (l++y++sp.drop m))→w.grownBy w' (some g)→w'.heap.size=w.heap.size→K (a.put o.dst (.slice (aS g) (n+m) cap)) w'):o.wp P a w K Q:=by
 subst hn;subst hcap;obtain⟨w',hrun,h1,h2,h3⟩:=xji B o.type g l sp hb A m c y hy hr h0 hm hmax;unfold Oper.wp execOp;simp only[ho,resolve,invoke,builtin,Sem.run_bind,Sem.run_pure,Result.andThen_ok,List.map_toArray,qk,ql,hs,hx,hrun];exact h w' h1 h2 h3
end
theorem and15(x:Nat)(hx:x<256):bits .and .u8 (x:Int) 15=((x%16:Nat):Int):=by
 have:=u8_and_nat x 15 hx (by omega);rw[nat_mask4] at this;exact this
theorem dig_at(k:Nat)(h:k<16):digL[k]'(by simp[digL];omega)=dig k:=by
 unfold dig;rw[List.getD_eq_getElem?_getD,List.getElem?_eq_getElem (by simp[digL];omega)];rfl
theorem hex_any(A:Option Addr)(n c:Nat)(l:LU)(w:World)(hr:Rd w A (bvs l))(hl:l.length=n)(hn:n≤140737488351232) :
  Calls prog 45 #[.slice A n c] w (oB w (.string ⟨(hexL l).toArray⟩)):=by
 have HL:=hZ hl;by_cases h0:n=0
 ·subst h0
  have e:hexL l = [45]:=by unfold hexL;rw[if_pos hl]
  rw[e];clear e hl;go_enter func45,ntmps45
  go_wp2
  go_ret;exact⟨rfl,Below.refl _ _⟩
 ·have e:hexL l=hexs l:=by unfold hexL;rw[if_neg (by omega)]
  rw[e];clear e hl;go_enter func45,ntmps45;go_wp2_with ((with_reducible refine xa4 12 ?_);refine xg9 bt rfl _ _ rfl .i64 .i64 0 (2*n) rfl (by go_num) (Nat.zero_le _) (by omega) ?_;intro w1 hb1 hw1 hs1);have hb0:Blk w1 w.heap.size 5 (bvs (hexs (l.take 0)++List.replicate (2*n - 2*0) 0)):=by simpa[hexs] using hb1
  clear hb1
  go_loopw [3,15] (fun out i wr=>∃ k:Nat,k≤n∧i=.int .i64 (k:Int)∧out=.slice (some ⟨w.heap.size,0,none⟩) (2*k) (2*n)∧Blk wr w.heap.size 5 (bvs (hexs (l.take k)++List.replicate (2*n - 2*k) 0))∧Bw w wr∧w.heap.size<wr.heap.size) (fun _ i _=>n - (intOf i).toNat)
  case atStart=>exact⟨0,by omega,by go_num,by first | rfl | simp,hb0,hw1,by omega⟩
  case round =>
   obtain⟨k,hk,rfl,rfl,hb,hw,hz⟩:=hrel;obtain⟨wq,rfl⟩:∃ wq:World,wq=wr:=⟨_,rfl⟩;by_cases hlt:k<n
   ·have hkl:k<l.length:=by rw[HL.out];exact hlt
    obtain⟨ad,rfl,hcc⟩:=hr (by rw[xae,HL.out];omega)
    have hc:wq.cell? (ad.add k)=some (.int .u8 ((l[k]).toNat:Int)):=by
     have h1:=hcc k _ (by rw[xe5,List.getElem?_eq_getElem hkl];rfl);exact(hw.cell (World.block_lt_of_cell? w _ h1)).trans h1
    have hs:=hZ (xt9 l k hkl);have hx8:(l[k]).toNat<256:=UInt8.toNat_lt _;generalize (l[k]).toNat=x at *;have hand:=and15 x hx8;have hhl:Hid ((hexs (l.take k)).length=2*k):=by show _=_;rw[xi5];simp;omega
    generalize hexs (l.take k)=hk0 at *;obtain⟨q,hq⟩:∃ q,q=x / 16:=⟨_,rfl⟩;obtain⟨r,hrr⟩:∃ r,r=x%16:=⟨_,rfl⟩;have hq16:q<16:=by omega
    have hr16:r<16:=by omega
    have hdq:(x:Int) / 16=(q:Int):=by omega
    rw[← hrr] at hand hs;rw[← hq] at hs;clear hq hrr;have hdl:digL.length=16:=rfl;go_wp2_with fail;refine rB (Below w.heap.size w) [] [7,8] [0,1,2,3,4,5,6,7,8,9] 0 ?_;refine X4 ?_;have hS:(Below w.heap.size w) _:=hw.drew;refine X8 ?_;refine X7 ?_;refine xab rfl rfl hS (fun W hW=>xe1 underlying9 (.const (.string ⟨digL.toArray⟩)) (.tmp 21) rfl digL rfl .u8 q rfl (by rw[hdl];exact hq16)) ?_;refine X6 ?_;refine X8 ?_;refine xab rfl rfl hS (fun W hW=>xe1 underlying9 (.const (.string ⟨digL.toArray⟩)) (.tmp 24) rfl digL rfl .u8 r rfl (by rw[hdl];exact hr16)) ?_;refine X6 ?_;refine xc0 rfl rfl ?_;intro K hK;go_simp;rw[dig_at q hq16,dig_at r hr16];have hS1:Below w.heap.size w (wq.drew.alloc (.cells #[.int .u8 ((dig q).toNat:Int),.int .u8 ((dig r).toNat:Int)] 5)):=hS.alloc hS.size _
    refine hK _ _ (fun _=>hS1) ?_;clear hK;refine Xg ?_;intro K hK;have hb1:Blk (wq.drew.alloc (.cells #[.int .u8 ((dig q).toNat:Int),.int .u8 ((dig r).toNat:Int)] 5)) w.heap.size 5 (bvs (hk0++List.replicate (2*n - 2*k) 0)):=hb.drew.alloc _;have hy:Rd (wq.drew.alloc (.cells #[.int .u8 ((dig q).toNat:Int),.int .u8 ((dig r).toNat:Int)] 5)) (some ⟨wq.heap.size,0,none⟩) (bvs [dig q,dig r]):=Rd.of_blk0 (es:=[]) (by simpa[bvs,bv] using Blk.new wq.drew 5 [.int .u8 ((dig q).toNat:Int),.int .u8 ((dig r).toNat:Int)]);refine xkl bt (.tmp 19) (.tmp 26) rfl w.heap.size hk0 (List.replicate (2*n - 2*k) 0) (2*k) (2*n) hhl.out (by rw[hhl.out];simp;omega) rfl hb1 (some ⟨wq.heap.size,0,none⟩) 2 2 [dig q,dig r] rfl rfl hy (by omega) (by simp;omega) (by unfold maxLen;omega) ?_;intro w2 hb2 hg2 hs2
    have hS2:Bw w w2:=hS1.grown hg2 hS1.size (by intro k hk;cases hk;exact Nat.le_refl _);refine hK _ _ (fun _=>hS2) ?_;clear hK;refine Xk ?_;refine Xb ?_;have hdr:List.drop 2 (List.replicate (2*n - 2*k) (0:UInt8))=List.replicate (2*n - 2*(k+1)) 0:=by rw[List.drop_replicate];congr 1<;>omega
    rw[hdr,← hs.out] at hb2;clear hdr hb1 hy hg2 hs2;go_wp2_with fail;go_roundw
    case rel=>exact⟨k+1,by omega,by go_num,by congr 1,hb2,hS2,hb2.lt⟩
    case measure=>simp only[intOf];omega
   ·obtain rfl:k=n:=by omega
    have htl:l.take k=l:=List.take_of_length_le (by rw[HL.out];exact Nat.le_refl _);rw[htl] at hb;have hlen:Hid ((hexs l).length=2*k):=by show _=_;rw[xi5,HL.out]
    have hrd:Rd wq (some ⟨w.heap.size,0,none⟩) (bvs (hexs l)):=by rw[xd6] at hb;exact Rd.of_blk0 hb
    clear htl hb hb0;go_wp2_with ((with_reducible refine xa4 30 ?_);refine xde bt rfl (.tmp 29) rfl (some ⟨w.heap.size,0,none⟩) (2*k) (2*k) rfl (hexs l) hrd hlen.out ?_);go_ret;exact⟨rfl,hw⟩
def xo0:Value→Nat
 | .slice _ _ c=>c
 | _=>0
theorem sz24:(prog.info? 25).map (·.size)=some 1:=by kernel_rfl
theorem w24:∃ d,prog.underlying 25=some d∧d.isRow=false:=⟨_,underlying25,rfl⟩
theorem xo1{w:World}{a:Act}{o:Oper}(x:Operand)(ho:o.op=.load 25 x)(ad:Addr)(v:Value)(hx:a.eval x=.pointer (some ad))(hc:w.cell? ad=some v):(execOp a.eval o).run prog w=.ok (.value v) w:=by
 obtain⟨d,hu,hd⟩:=w24;exact xb6 hu hd x ho ad v hx hc
theorem xqn{w:World}{a:Act}{o:Oper}(x:Operand)(ho:o.op=.call { callee:=.builtin .len,args:=#[x],argTypes:=#[50] })(A:Option Addr)(n c:Nat)(hx:a.eval x=.slice A n c) :
  (execOp a.eval o).run prog w=.ok (.value (iV n)) w:=by
 unfold execOp;simp only[ho,resolve,invoke,builtin,Sem.run_bind,Sem.run_pure,Result.andThen_ok,List.map_toArray,qk,ql,hx];go_simp
theorem one_lft8{w:World}{g:Nat}(x:UInt8)(hg:g<w.heap.size):Lft (· = g) (w.alloc (.cells #[.int .u8 (x.toNat:Int)] 5)) (some ⟨w.heap.size,0,none⟩) 1 1 [x]:=xm5 x _ rfl hg
theorem xua(t:UInt8)(A:Option Addr)(n c:Nat)(vs:List Value)(ls:List LU)(w:World)(hl:ls.length=n)(hr:Rd w A vs)(ha:AllRd w vs ls)(hmx:∀ (i:Nat)(v:Value),vs[i]? = some v→xo0 v≤maxLen)
  (hn:n≤1099511627776) (hb:ls.flatten.length+1≤140737488355328) :
  Calls prog 97 #[.int .u8 (t.toNat:Int),.slice A n c] w (oB w (arr8 (shaL (t::ls.flatten)))):=by
 have HL:=hZ hl;have HM:=hZ hmx;refine X1c ?_;intro hbz;refine X1d ?_;intro hw0;have C1:=fun u=>hZ (xt4 u)
 have HRL:Hid ((shaL (t::ls.flatten)).length=32):=hZ (xcm _);have C3:=fun(g:Nat)(u:World) (h:St u g (t::ls.flatten))=>hZ (xt6 g (t::ls.flatten) u h (by simp only[qr];omega))
 clear hl hmx;generalize shaL (t::ls.flatten)=res at *;unfold arr8 at *;go_enter func97,ntmps97;go_upto_region 1 with fail;generalize hW:World.alloc w _=w0;have h3:Blk w0 w.heap.size 23 (bvs (zb 32))∧Bw w w0:=by rw[← hW];exact⟨hbz,hw0⟩
 clear hW hbz hw0;obtain⟨hbz,hw0⟩:=h3;have hz:=hbz.lt
 go_upto_region 2 with(first
  | (go_at_call 157;with_reducible refine(C1 _).out.mono ?_;rintro e w1 ⟨g,rfl,hg,hs1,hw1⟩))
 have hg1:=hs1.lt;have hs1a:St (w1.alloc (.cells #[.int .u8 (t.toNat:Int)] 5)) g []:=hs1.below ((Below.refl _ _).alloc (Nat.le_refl _) _);have W1:=hZ (xie g [] (some ⟨w1.heap.size,0,none⟩) 1 t _ hs1a (one_lft8 t hg1) (by simp));refine X19 ?_;refine wpList_plain rfl fun K hK=>?_;go_simp
 refine Xv ?_;clear hK;refine wpList_plain rfl fun K hK=>?_;go_simp
 (with_reducible refine W1.out.mono ?_);rintro e w2 ⟨rfl,hs2,hf2⟩;refine hK _ _ ?_;clear hK;refine X17 ?_;rw[List.nil_append] at hs2;have hb1:Below w.heap.size w (w1.alloc (.cells #[.int .u8 (t.toNat:Int)] 5)):=(hw0.trans (hw1.mono hw0.size)).alloc (by have:=hw1.size;omega) _;have hgw:w.heap.size<g:=by omega
 have hb2:Bw w w2:=hb1.trans (xki hf2 (fun k e=>by rw[e];omega) hb1.size);have hz2:Blk w2 w.heap.size 23 (bvs (zb 32)):=((hbz.below hw1 hz).alloc _).fr hf2 (fun e=>by omega);have hs2':St w2 g (t::(ls.take 0).flatten):=by simpa using hs2
 clear W1 hs1 hs1a hf2 hb1 hg1 hbz hw0 hz hw1 C1 hs2;go_upto_region 3 with fail;refine X12 ?_;refine xaa rfl _ (xqn _ rfl A n c rfl) ?_;refine X1e ?_;go_wp2_with fail
 go_loopw [15] (fun i wr=>∃ k:Nat,k≤n∧i=.int .i64 (k:Int)∧St wr g (t::(ls.take k).flatten)∧Blk wr w.heap.size 23 (bvs (zb 32))∧Bw w wr) (fun i _=>n - (intOf i).toNat)
 case atStart=>exact⟨0,by omega,by go_num,hs2',hz2,hb2⟩
 case round =>
  clear hs2' hz2 hb2;obtain⟨k,hk,rfl,hs2,hz2,hb2⟩:=hrel;by_cases hlt:k<n
  ·have hltz:(k:Int)<(n:Int):=by omega
   have hkl:k<ls.length:=by rw[HL.out];exact hlt
   obtain⟨v,hv⟩:∃ v,vs[k]? = some v:=⟨_,List.getElem?_eq_getElem (by have:=ha.1;omega)⟩;obtain⟨ad,rfl,hcc⟩:=hr (by have:=ha.1;omega);have hc:=hZ ((hb2.cell (World.block_lt_of_cell? w _ (hcc k v hv))).trans (hcc k v hv));obtain⟨A1,d1,rfl,hd1,hrd⟩:=ha.2 k v ls[k] hv (List.getElem?_eq_getElem hkl);have hlen:=xh8 ls k hkl;have HF:=hZ (xe6 ls k hkl);have hmd:d1≤maxLen:=HM.out k _ hv;have W2:=hZ (xe7 g (t::(ls.take k).flatten) A1 ls[k].length d1 ls[k] wr hs2 rfl (fun h0=>rd_lft hrd rfl hd1 hmd h0 hb2 (Nat.le_of_lt hgw)) (by simp only[qr];omega));go_upto_region 5 with fail;refine Xt ?_;refine xaa rfl _ (exec_sia underlying50 sz24 _ _ rfl ad n c k _ rfl rfl hlt) ?_;refine X6 ?_;refine xaa rfl _ (xo1 _ rfl _ _ rfl hc.out) ?_;refine X1a ?_
   go_wp2_with (first
    | (go_at_call 158;with_reducible refine W2.out.mono ?_;rintro e w3 ⟨rfl,hs3,hf3⟩))
   go_roundw
   case rel =>
    refine⟨k+1,by omega,by go_num,?_,hz2.fr hf3 (fun e=>by omega),hb2.trans (xki hf3 (fun k e=>by rw[e];omega) hb2.size)⟩;rw[HF.out];exact hs3
   case measure=>simp only[intOf];omega
  ·obtain rfl:k=n:=by omega
   have hs3:St wr g (t::ls.flatten):=by rwa [List.take_of_length_le (by rw[HL.out];exact Nat.le_refl _)] at hs2
   go_upto_region 8 with fail;refine X12 ?_;refine wpList_plain rfl fun K hK=>?_;go_simp
   (with_reducible refine(C3 g wr hs3).out.mono ?_);rintro e w3 ⟨rfl,hw3⟩;refine Xv ?_;clear hK;refine xal at25w.i rfl (.tmp 4) (.tmp 24) rfl w.heap.size 0 23 (bvs (zb 32)) (bvs res) rfl rfl (hz2.below hw3 hz2.lt) (by rw[xae];exact HRL.out) (by rw[xae,xck];omega) (xb0 _) ?_;intro w4 hb4 hg4 hs4;refine X17 ?_;go_wp2_with fail;refine Xc ?_;rw[xbx _ _ (by rw[xae,xae,xck];exact HRL.out.symm)] at hb4;refine bodyPost_ret (xb8 rfl at25w _ _ w.heap.size 23 (bvs res) rfl hb4 (by rw[xae];exact HRL.out)) rfl ?_;exact⟨rfl,(hb2.trans (hw3.mono hb2.size)).grown hg4 (by have:=hb2.size;have:=hw3.size;omega) (by intro k hk;cases hk;omega)⟩
theorem xhg(t:UInt8)(z:Int)(hz:(t.toNat:Int)=z)(A:Option Addr)(n c:Nat)(vs:List Value)(ls:List LU)(w:World)(hl:ls.length=n)(hr:Rd w A vs)(ha:AllRd w vs ls)(hmx:∀ (i:Nat)(v:Value),vs[i]? = some v→xo0 v≤maxLen)
  (hn:n≤1099511627776) (hb:ls.flatten.length+1≤140737488355328) :
  Calls prog 97 #[.int .u8 z,.slice A n c] w (oB w (arr8 (shaL (t::ls.flatten)))):=by
 subst hz;exact xua t A n c vs ls w hl hr ha hmx hn hb
theorem xub(w:World):Calls prog 43 #[] w (oB w (arr8 (shaL [0]))):=by
 refine X1c ?_;intro hbz;refine X1d ?_;intro hw0;have C:=fun u=>hZ (xhg 0 0 rfl none 0 0 [] [] u rfl (Rd.nil _ _) (AllRd.nil _) (fun i v h=>by simp at h) (by omega) (by simp))
 have HRL:Hid ((shaL [0]).length=32):=hZ (xcm _);rw[show(0:UInt8)::([]:List LU).flatten = [0] from rfl] at C;generalize shaL [0]=res at *;unfold arr8 at *;go_enter func43,ntmps43;go_upto_region 1 with fail;refine Xt ?_;refine wpList_plain rfl fun K hK=>?_;go_simp
 refine(C _).out.mono ?_;rintro e w3 ⟨rfl,hw3⟩;refine Xv ?_;clear hK;refine xal at25w.i rfl (.tmp 0) (.tmp 1) rfl w.heap.size 0 23 (bvs (zb 32)) (bvs res) rfl rfl (hbz.below hw3 hbz.lt) (by rw[xae];exact HRL.out) (by rw[xae,xck];omega) (xb0 _) ?_;intro w4 hb4 hg4 hs4;refine X17 ?_;go_wp2_with fail;refine Xc ?_;rw[xbx _ _ (by rw[xae,xae,xck];exact HRL.out.symm)] at hb4;refine bodyPost_ret (xb8 rfl at25w _ _ w.heap.size 23 (bvs res) rfl hb4 (by rw[xae];exact HRL.out)) rfl ?_;exact⟨rfl,(hw0.trans (hw3.mono hw0.size)).grown hg4 (Nat.le_trans hw0.size hw3.size) (by intro k hk;cases hk;omega)⟩
theorem xuc(A:Option Addr)(n c:Nat)(l:LU)(w:World)(hr:Rd w A (bvs l))(hl:l.length=n)(hcap:n≤c)(hmax:c≤maxLen)(hn:n≤140737488351232) :
  Calls prog 42 #[.slice A n c] w (oB w (arr8 (shaL (3::l)))):=by
 subst hl;have hbz:Blk ((w.alloc (.cells (bvs (zb 32)).toArray 23)).alloc (.cells #[.slice A l.length c] 25)) w.heap.size 23 (bvs (zb 32)):=(Blk.new _ _ _).alloc _;have hw0:Below w.heap.size w ((w.alloc (.cells (bvs (zb 32)).toArray 23)).alloc (.cells #[.slice A l.length c] 25)):=((Below.refl _ _).alloc (Nat.le_refl _) _).alloc (by simp) _
 have hR:Rd ((w.alloc (.cells (bvs (zb 32)).toArray 23)).alloc (.cells #[.slice A l.length c] 25)) (some ⟨w.heap.size+1,0,none⟩) [.slice A l.length c]:=by
  have:=Rd.one_blk (Blk.new (w.alloc (.cells (bvs (zb 32)).toArray 23)) 25 [.slice A l.length c]);rwa [show(w.alloc (.cells (bvs (zb 32)).toArray 23)).heap.size=w.heap.size+1 by simp] at this
 have C:=hZ (xhg 3 3 rfl (some ⟨w.heap.size+1,0,none⟩) 1 1 [.slice A l.length c] [l] _ rfl hR (AllRd.cons ⟨A,c,rfl,hcap,(hr.alloc _).alloc _⟩ (AllRd.nil _)) (fun i v h=>by
  cases i with
  | zero=>cases h;exact hmax
  | succ i=>simp at h) (by omega) (by simp;omega))
 have HRL:Hid ((shaL (3::l)).length=32):=hZ (xcm _);rw[show(3:UInt8)::[l].flatten=3::l by simp] at C;generalize shaL (3::l)=res at *;unfold arr8 at *;go_enter func42,ntmps42;go_upto_region 1 with fail;refine X12 ?_;refine wpList_plain rfl fun K hK=>?_;go_simp
 refine Xv ?_;clear hK;refine wpList_plain rfl fun K hK=>?_;go_simp
 refine C.out.mono ?_;rintro e w3 ⟨rfl,hw3⟩;refine Xv ?_;clear hK;refine xal at25w.i rfl (.tmp 2) (.tmp 5) rfl w.heap.size 0 23 (bvs (zb 32)) (bvs res) rfl rfl (hbz.below hw3 hbz.lt) (by rw[xae];exact HRL.out) (by rw[xae,xck];omega) (xb0 _) ?_;intro w4 hb4 hg4 hs4;refine X17 ?_;go_wp2_with fail;refine Xc ?_;rw[xbx _ _ (by rw[xae,xae,xck];exact HRL.out.symm)] at hb4;refine bodyPost_ret (xb8 rfl at25w _ _ w.heap.size 23 (bvs res) rfl hb4 (by rw[xae];exact HRL.out)) rfl ?_;exact⟨rfl,(hw0.trans (hw3.mono hw0.size)).grown hg4 (Nat.le_trans hw0.size hw3.size) (by intro k hk;cases hk;omega)⟩
theorem ia23:IA prog 24 32:=⟨⟨_,underlying24,by kernel_rfl⟩⟩
theorem xkm(u:World)(k v:LU)(tk tv:TypeId)(g h:Nat)(hk:Blk u g tk (bvs k))(hv:Blk u h tv (bvs v))(lk:k.length=32)(lv:v.length=32) :
  Rd (u.alloc (.cells #[.slice (aS g) 32 32,.slice (aS h) 32 32] 25)) (some ⟨u.heap.size,0,none⟩) [.slice (aS g) 32 32,.slice (aS h) 32 32] ∧
  AllRd (u.alloc (.cells #[.slice (aS g) 32 32,.slice (aS h) 32 32] 25)) [.slice (aS g) 32 32,.slice (aS h) 32 32] [k,v] ∧
  (∀ (i:Nat)(x:Value),[Value.slice (aS g) 32 32,.slice (aS h) 32 32][i]? = some x→xo0 x≤maxLen):=by
 refine⟨Rd.of_blk0 (es:=[]) (by simpa using Blk.new u 25 [.slice (aS g) 32 32,.slice (aS h) 32 32]),AllRd.cons ⟨_,32,by rw[lk],by omega,?_⟩ (AllRd.cons ⟨_,32,by rw[lv],by omega,?_⟩ (AllRd.nil _)),?_⟩
 ·exact(Rd.of_blk0 (es:=[]) (by simpa using hk)).alloc _
 ·exact(Rd.of_blk0 (es:=[]) (by simpa using hv)).alloc _
 ·intro i x hx
  have hm:(32:Nat)≤maxLen:=by unfold maxLen;omega
  match i,hx with
  | 0,hx=>cases hx;exact hm
  | 1,hx=>cases hx;exact hm
  | i+2,hx=>simp at hx
theorem leaf_any(k v:LU)(w:World)(lk:k.length=32)(lv:v.length=32) :
  Calls prog 41 #[arr8 k,arr8 v] w (oB w (arr8 (shaL (1::(k++v))))):=by
 have b1:Blk (w.alloc (.cells (bvs k).toArray 24)) w.heap.size 24 (bvs k):=Blk.new _ _ _
 have b2:Blk ((w.alloc (.cells (bvs k).toArray 24)).alloc (.cells (bvs v).toArray 23)) (w.heap.size+1) 23 (bvs v):=by
  have:=Blk.new (w.alloc (.cells (bvs k).toArray 24)) 23 (bvs v);rwa [show(w.alloc (.cells (bvs k).toArray 24)).heap.size=w.heap.size+1 by simp] at this
 have b3:Blk (((w.alloc (.cells (bvs k).toArray 24)).alloc (.cells (bvs v).toArray 23)).alloc (.cells (bvs (zb 32)).toArray 23)) (w.heap.size+2) 23 (bvs (zb 32)):=by
  have:=Blk.new ((w.alloc (.cells (bvs k).toArray 24)).alloc (.cells (bvs v).toArray 23)) 23 (bvs (zb 32));rwa [show((w.alloc (.cells (bvs k).toArray 24)).alloc (.cells (bvs v).toArray 23)).heap.size=w.heap.size+2 by simp] at this
 have hall:=And.intro ((b1.alloc (.cells (bvs v).toArray 23)).alloc (.cells (bvs (zb 32)).toArray 23)) (And.intro (b2.alloc (.cells (bvs (zb 32)).toArray 23)) (And.intro b3
  ((((Below.refl w.heap.size w).alloc (Nat.le_refl _) (.cells (bvs k).toArray 24)).alloc (by simp) (.cells (bvs v).toArray 23)).alloc (by simp;omega) (.cells (bvs (zb 32)).toArray 23))))
 clear b1 b2 b3;have C:=fun(u:World)(A:Option Addr)(vs:List Value)(hr:Rd u A vs)(ha:AllRd u vs [k,v]) (hm:∀ (i:Nat)(x:Value),vs[i]? = some x→xo0 x≤maxLen)=>hZ (xhg 1 1 rfl A 2 2 vs [k,v] u rfl hr ha hm (by omega) (by simp[lk,lv]))
 have HRL:Hid ((shaL (1::(k++v))).length=32):=hZ (xcm _);rw[show(1:UInt8)::[k,v].flatten=1::(k++v) by simp] at C;generalize shaL (1::(k++v))=res at *;unfold arr8 at *;go_enter func41,ntmps41;go_upto_region 1 with fail;generalize hW:World.alloc (World.alloc (World.alloc w _) _) _=w0;have h3:Blk w0 w.heap.size 24 (bvs k)∧Blk w0 (w.heap.size+1) 23 (bvs v)∧Blk w0 (w.heap.size+2) 23 (bvs (zb 32))∧Bw w w0:=by rw[← hW];exact hall
 clear hall hW;obtain⟨c1,c2,c3,c4⟩:=h3;have T:=xkm w0.drew k v 24 23 w.heap.size (w.heap.size+1) c1.drew c2.drew lk lv;have T2:=hZ T;clear T;refine rB (Any) [4] [2,3,4] [0,1,2,3,4] 0 ?_;refine X4 ?_;have hS:(Any) _:=xid w0.drew;refine xab rfl rfl hS (fun W hW=>xeq ia23 _ rfl w.heap.size 0 rfl) ?_;refine X1h ?_;refine X6 ?_;refine xc0 rfl rfl ?_;intro K hK;go_simp;refine X1i ?_;intro hS1;refine hK _ _ (fun _=>hS1) ?_;clear hK;refine xc0 rfl rfl ?_;intro K hK;go_simp;refine(C _ _ _ T2.out.1 T2.out.2.1 T2.out.2.2).out.mono ?_;rintro e w3 ⟨rfl,hw3⟩;have hS2:=xid w3;refine hK _ _ (fun _=>hS2) ?_;clear hK;refine Xg ?_;intro K hK
 refine xbe at25w.i (.tmp 4) (.tmp 8) rfl (w.heap.size+2) 0 23 (bvs (zb 32)) (bvs res) rfl rfl ((c3.drew.alloc _).below hw3 (c3.drew.alloc _).lt) (by rw[xae];exact HRL.out) (by rw[xae,xck];omega) (xb0 _) ?_;intro w4 hb4 hg4 hs4;refine Xi ?_;clear hK;refine Xa ?_;have c5:Below w.heap.size w (w0.drew.alloc (.cells #[.slice (some ⟨w.heap.size,0,none⟩) 32 32,.slice (some ⟨w.heap.size+1,0,none⟩) 32 32] 25)):=c4.drew.alloc (by have:=c4.size;simpa using this) _;go_wp2_with fail;refine Xc ?_;rw[xbx _ _ (by rw[xae,xae,xck];exact HRL.out.symm)] at hb4;refine bodyPost_ret (xb8 rfl at25w _ _ (w.heap.size+2) 23 (bvs res) rfl hb4 (by rw[xae];exact HRL.out)) rfl ?_;exact⟨rfl,(c5.trans (hw3.mono c5.size)).grown hg4 (Nat.le_trans c5.size hw3.size) (by intro k hk;cases hk;omega)⟩
theorem xud(k v:LU)(w:World)(lk:k.length=32)(lv:v.length=32) :
  Calls prog 44 #[arr8 k,arr8 v] w (oB w (arr8 (shaL (2::(k++v))))):=by
 have b1:Blk (w.alloc (.cells (bvs k).toArray 23)) w.heap.size 23 (bvs k):=Blk.new _ _ _
 have b2:Blk ((w.alloc (.cells (bvs k).toArray 23)).alloc (.cells (bvs v).toArray 23)) (w.heap.size+1) 23 (bvs v):=by
  have:=Blk.new (w.alloc (.cells (bvs k).toArray 23)) 23 (bvs v);rwa [show(w.alloc (.cells (bvs k).toArray 23)).heap.size=w.heap.size+1 by simp] at this
 have b3:Blk (((w.alloc (.cells (bvs k).toArray 23)).alloc (.cells (bvs v).toArray 23)).alloc (.cells (bvs (zb 32)).toArray 23)) (w.heap.size+2) 23 (bvs (zb 32)):=by
  have:=Blk.new ((w.alloc (.cells (bvs k).toArray 23)).alloc (.cells (bvs v).toArray 23)) 23 (bvs (zb 32));rwa [show((w.alloc (.cells (bvs k).toArray 23)).alloc (.cells (bvs v).toArray 23)).heap.size=w.heap.size+2 by simp] at this
 have hall:=And.intro ((b1.alloc (.cells (bvs v).toArray 23)).alloc (.cells (bvs (zb 32)).toArray 23)) (And.intro (b2.alloc (.cells (bvs (zb 32)).toArray 23)) (And.intro b3
  ((((Below.refl w.heap.size w).alloc (Nat.le_refl _) (.cells (bvs k).toArray 23)).alloc (by simp) (.cells (bvs v).toArray 23)).alloc (by simp;omega) (.cells (bvs (zb 32)).toArray 23))))
 clear b1 b2 b3;have C:=fun(u:World)(A:Option Addr)(vs:List Value)(hr:Rd u A vs)(ha:AllRd u vs [k,v]) (hm:∀ (i:Nat)(x:Value),vs[i]? = some x→xo0 x≤maxLen)=>hZ (xhg 2 2 rfl A 2 2 vs [k,v] u rfl hr ha hm (by omega) (by simp[lk,lv]))
 have HRL:Hid ((shaL (2::(k++v))).length=32):=hZ (xcm _);rw[show(2:UInt8)::[k,v].flatten=2::(k++v) by simp] at C;generalize shaL (2::(k++v))=res at *;unfold arr8 at *;go_enter func44,ntmps44;go_upto_region 1 with fail;generalize hW:World.alloc (World.alloc (World.alloc w _) _) _=w0;have h3:Blk w0 w.heap.size 23 (bvs k)∧Blk w0 (w.heap.size+1) 23 (bvs v)∧Blk w0 (w.heap.size+2) 23 (bvs (zb 32))∧Bw w w0:=by rw[← hW];exact hall
 clear hall hW;obtain⟨c1,c2,c3,c4⟩:=h3;have T:=xkm w0.drew k v 23 23 w.heap.size (w.heap.size+1) c1.drew c2.drew lk lv;have T2:=hZ T;clear T;refine rB (Any) [4] [2,3,4] [0,1,2,3,4] 0 ?_;refine X4 ?_;have hS:(Any) _:=xid w0.drew;refine xab rfl rfl hS (fun W hW=>xeq ia25 _ rfl w.heap.size 0 rfl) ?_;refine X1h ?_;refine X6 ?_;refine xc0 rfl rfl ?_;intro K hK;go_simp;refine X1i ?_;intro hS1;refine hK _ _ (fun _=>hS1) ?_;clear hK;refine xc0 rfl rfl ?_;intro K hK;go_simp;refine(C _ _ _ T2.out.1 T2.out.2.1 T2.out.2.2).out.mono ?_;rintro e w3 ⟨rfl,hw3⟩;have hS2:=xid w3;refine hK _ _ (fun _=>hS2) ?_;clear hK;refine Xg ?_;intro K hK
 refine xbe at25w.i (.tmp 4) (.tmp 8) rfl (w.heap.size+2) 0 23 (bvs (zb 32)) (bvs res) rfl rfl ((c3.drew.alloc _).below hw3 (c3.drew.alloc _).lt) (by rw[xae];exact HRL.out) (by rw[xae,xck];omega) (xb0 _) ?_;intro w4 hb4 hg4 hs4;refine Xi ?_;clear hK;refine Xa ?_;have c5:Below w.heap.size w (w0.drew.alloc (.cells #[.slice (some ⟨w.heap.size,0,none⟩) 32 32,.slice (some ⟨w.heap.size+1,0,none⟩) 32 32] 25)):=c4.drew.alloc (by have:=c4.size;simpa using this) _;go_wp2_with fail;refine Xc ?_;rw[xbx _ _ (by rw[xae,xae,xck];exact HRL.out.symm)] at hb4;refine bodyPost_ret (xb8 rfl at25w _ _ (w.heap.size+2) 23 (bvs res) rfl hb4 (by rw[xae];exact HRL.out)) rfl ?_;exact⟨rfl,(c5.trans (hw3.mono c5.size)).grown hg4 (Nat.le_trans c5.size hw3.size) (by intro k hk;cases hk;omega)⟩
def Tx(w:World)(A:Option Addr)(n c:Nat)(l:LU):Prop:=Lft (fun _=>False) w A n c l
theorem Tx.below{w w':World}{A:Option Addr}{n c:Nat}{l:LU}(h:Tx w A n c l)(hb:Bw w w'):Tx w' A n c l:=⟨h.len,h.cap,h.max,h.rd.below hb,fun _ _ h=>h⟩
theorem Tx.rd{w:World}{A:Option Addr}{n c:Nat}{l:LU}(h:Tx w A n c l):Rd w A (bvs l):=Lft.rd h
theorem Tx.len{w:World}{A:Option Addr}{n c:Nat}{l:LU}(h:Tx w A n c l):l.length=n:=Lft.len h
theorem Tx.cap{w:World}{A:Option Addr}{n c:Nat}{l:LU}(h:Tx w A n c l):n≤c:=Lft.cap h
theorem Tx.max{w:World}{A:Option Addr}{n c:Nat}{l:LU}(h:Tx w A n c l):c≤maxLen:=Lft.max h
theorem xa9{P:Program}{w:World}{a:Act}{o:Oper}{t t':TypeId}{b:Bool}(x y:Operand)(ho:o.op=.binOp .neq t x y t')(m n:Int)(hx:a.eval x=iV m)(hy:a.eval y=iV n)(h:(m==n) = !b) :
  (execOp a.eval o).run P w=.ok (.value (.bool b)) w:=by
 unfold execOp;simp only[ho,hx,hy];go_simp;cases b<;>simp_all
theorem xue:∀ x,x<256→x≠0→(1≤Lib.bitLen x∧Lib.bitLen x≤8∧x.testBit (Lib.bitLen x - 1)=true∧∀ e,e<8 - Lib.bitLen x→x.testBit (7 - e)=false):=by decide +kernel
theorem xuf(p q:LU)(k:Nat)(hk:k<32)(hl:∀ j,j<k→p.getD j 0=q.getD j 0)(h0:(p.getD k 0).toNat ^^^ (q.getD k 0).toNat≠0) :
  comm p q=8*k+(8 - Lib.bitLen ((p.getD k 0).toNat ^^^ (q.getD k 0).toNat)):=by
 obtain⟨a,ha⟩:∃ a,a=(p.getD k 0).toNat:=⟨_,rfl⟩;obtain⟨b,hb⟩:∃ b,b=(q.getD k 0).toNat:=⟨_,rfl⟩;have ha8:a<256:=by rw[ha];exact UInt8.toNat_lt _
 have hb8:b<256:=by rw[hb];exact UInt8.toNat_lt _
 rw[← ha,← hb] at h0 ⊢;obtain⟨h1,h2,h3,h4⟩:=xue (a ^^^ b) (Nat.xor_lt_two_pow (n:=8) ha8 hb8) h0;apply xr1
 ·omega
 ·intro d hd
  unfold tb;by_cases hdk:d / 8<k
  ·rw[hl _ hdk]
  ·have e:d / 8=k:=by omega
   rw[e,← ha,← hb];have:=h4 (d%8) (by omega);rw[Nat.testBit_xor] at this;simpa using this
 ·intro hlt
  unfold tb;have e:(8*k+(8 - Lib.bitLen (a ^^^ b))) / 8=k:=by omega
  have e2:7 - (8*k+(8 - Lib.bitLen (a ^^^ b)))%8=Lib.bitLen (a ^^^ b) - 1:=by omega
  rw[e,e2,← ha,← hb];rw[Nat.testBit_xor] at h3;simpa using h3
theorem xkn(p q:LU)(w:World)(hp:p.length=32)(hq:q.length=32) :
  Calls prog 147 #[arr8 p,arr8 q] w (oB w (iV (comm p q:Nat))):=by
 have HP:=hZ hp;have HQ:=hZ hq;clear hp hq;have h2:=Two.mk' w 24 p q;unfold arr8;by_cases he:p=q
 ·have e1:comm p q=256:=by rw[he];exact xtm q
  rw[e1];have HE:=hZ he;clear he;go_enter func147,ntmps147
  go_wp2_with (first
   | ((with_reducible refine xa4 7 ?_);refine xaa rfl _ (xba at23' (.tmp 2) rfl _ 24 (bvs p) rfl h2.p (by rw[xae];exact HP.out)) ?_)
   | ((with_reducible refine xa4 8 ?_);refine xaa rfl _ (xba at23' (.tmp 3) rfl _ 24 (bvs q) rfl h2.q (by rw[xae];exact HQ.out)) ?_)
   | ((with_reducible refine xa4 9 ?_);refine xaa rfl (.bool true) (by rw[xfu ab23 (.tmp 7) (.tmp 8) rfl p q rfl rfl HP.out HQ.out,HE.out,beq_self_eq_true]) ?_))
  go_ret;exact⟨rfl,h2.b⟩
 ·have HE:=hZ he;clear he
  have hbeq:Hid ((p==q)=false):=by show _=_;simpa using HE.out
  go_enter func147,ntmps147
  go_wp2_with (first
   | ((with_reducible refine xa4 7 ?_);refine xaa rfl _ (xba at23' (.tmp 2) rfl _ 24 (bvs p) rfl h2.p (by rw[xae];exact HP.out)) ?_)
   | ((with_reducible refine xa4 8 ?_);refine xaa rfl _ (xba at23' (.tmp 3) rfl _ 24 (bvs q) rfl h2.q (by rw[xae];exact HQ.out)) ?_)
   | ((with_reducible refine xa4 9 ?_);refine xaa rfl (.bool false) (by rw[xfu ab23 (.tmp 7) (.tmp 8) rfl p q rfl rfl HP.out HQ.out,hbeq.out]) ?_))
  generalize hW:(w.alloc (.cells (bvs p).toArray 24)).alloc (.cells (bvs q).toArray 24)=w0 at *;clear hW
  go_loopw [10] (fun i wr=>∃ k:Nat,k≤32∧i=.int .i64 (k:Int)∧(∀ j,j<k→p.getD j 0=q.getD j 0)∧Bw w0 wr) (fun i _=>32 - (intOf i).toNat)
  case atStart=>exact⟨0,by omega,by go_num,fun j hj=>by omega,Below.refl _ _⟩
  case round =>
   obtain⟨k,hk,rfl,hl,hw⟩:=hrel;have hb:=h2.b.trans (hw.mono h2.b.size);by_cases hlt:k<32
   ·have hc1:wr.cell? ⟨w.heap.size,k,none⟩=some (.int .u8 ((p.getD k 0).toNat:Int)):=xhd (h2.p.below hw h2.p.lt) HP.out k hlt
    have hc2:wr.cell? ⟨w.heap.size+1,k,none⟩=some (.int .u8 ((q.getD k 0).toNat:Int)):=xhd (h2.q.below hw h2.q.lt) HQ.out k hlt;have hx0:=u8_xor_nat (p.getD k 0).toNat (q.getD k 0).toNat (UInt8.toNat_lt _) (UInt8.toNat_lt _);have hx8:(p.getD k 0).toNat ^^^ (q.getD k 0).toNat<256:=Nat.xor_lt_two_pow (n:=8) (UInt8.toNat_lt _) (UInt8.toNat_lt _);have hxe:=hZ (xuf p q k hlt hl)
    have hxn:Hid ((p.getD k 0).toNat ^^^ (q.getD k 0).toNat=0→p.getD k 0=q.getD k 0):=by
     intro h;apply UInt8.toNat_inj.1;apply Nat.eq_of_testBit_eq;intro i;have h1:=congrArg (fun z=>z.testBit i) h;simpa[Nat.testBit_xor] using h1
    obtain⟨a,ha⟩:∃ a,a=p.getD k 0:=⟨_,rfl⟩;obtain⟨b,hbb⟩:∃ b,b=q.getD k 0:=⟨_,rfl⟩;rw[← ha] at hc1 hx0 hx8 hxe hxn;rw[← hbb] at hc2 hx0 hx8 hxe hxn;have HA:=hZ ha;clear ha;have HB:=hZ hbb;clear hbb;generalize hx:a.toNat ^^^ b.toNat=x at *;have HX:=hZ hx;clear hx;have HLK:=hZ hl;clear hl;have h8:Lib.bitLen x≤8:=Lib.bitLen_le8 ⟨x,hx8⟩;go_wp2_with fail;refine rB (Below wr.heap.size wr) [] [] [0,1,2,3,4,5,6,7] 0 ?_;refine X4 ?_;have hS:(Below wr.heap.size wr) _:=(Below.refl _ _).drew;refine X8 ?_;refine xab (v:=?_) rfl rfl hS ?_ ?_;rotate_left;(· intro W hW;have hcw1:=(Below.cell hW (World.block_lt_of_cell? _ _ hc1)).trans hc1;go_simp;try with_reducible rfl);refine X6 ?_;refine X8 ?_
    refine xab (v:=?_) rfl rfl hS ?_ ?_;rotate_left;(· intro W hW;have hcw2:=(Below.cell hW (World.block_lt_of_cell? _ _ hc2)).trans hc2;go_simp;try with_reducible rfl);refine X9 ?_;refine X5 ?_;refine Xb ?_;go_wp2_with (go_at_call 209;refine(xqj (x:Int) _ (by omega) (by omega)).mono ?_;rintro e w1 ⟨rfl,rfl⟩;rw[Int.toNat_natCast])
    ·go_ret
     rename_i hh;have h0:x≠0:=by simpa using hh
     refine⟨ret_i ?_,h2.b.trans ((hw.trans (hS.mono hw.size)).mono h2.b.size)⟩;have:=hxe.out h0;rw[this];omega
    ·rename_i hh
     have h0:x=0:=by simpa using hh
     go_roundw
     case rel =>
      refine⟨k+1,by omega,by go_num,fun j hj=>?_,hw.trans (hS.mono hw.size)⟩;by_cases hjk:j=k
      ·rw[hjk,← HA.out,← HB.out];exact hxn.out h0
      ·exact HLK.out j (by omega)
     case measure=>simp only[intOf];omega
   ·obtain rfl:k=32:=by omega
    exfalso;apply HE.out;apply List.ext_getElem?;intro i;by_cases hi:i<32
    ·have:=hl i hi
     rw[List.getD_eq_getElem?_getD,List.getD_eq_getElem?_getD] at this;rw[List.getElem?_eq_getElem (by rw[HP.out];exact hi),List.getElem?_eq_getElem (by rw[HQ.out];exact hi)] at this ⊢;simpa using this
    ·rw[List.getElem?_eq_none (by rw[HP.out];omega),List.getElem?_eq_none (by rw[HQ.out];omega)]
def xdz(p q:LU)(d:Int):Bool:=decide (0≤d∧d≤256∧d≤comm p q)
theorem xug(p q:LU)(d:Int)(w:World)(hp:p.length=32)(hq:q.length=32)(hd : -9223372036854775808≤d∧d≤9223372036854775807) :
  Calls prog 105 #[arr8 p,arr8 q,iV d] w (oB w (.bool (xdz p q d))):=by
 have HP:=hZ hp;have HQ:=hZ hq;clear hp hq;have h2:=Two.mk' w 24 p q;by_cases h0:d<0
 ·have e1:xdz p q d=false:=by unfold xdz;simp;omega
  rw[e1];clear e1;unfold arr8;go_enter func105,ntmps105;go_wp2_with fail;go_ret;exact⟨rfl,h2.b⟩
 ·by_cases h1:256<d
  ·have e1:xdz p q d=false:=by unfold xdz;simp;omega
   rw[e1];clear e1;unfold arr8;go_enter func105,ntmps105;go_wp2_with fail;go_ret;exact⟨rfl,h2.b⟩
  ·have e1:xdz p q d=decide (d≤comm p q):=by unfold xdz;congr 1;simp;omega
   rw[e1];clear e1;have h2d:d≤256:=by omega
   unfold arr8;go_enter func105,ntmps105
   go_wp2_with (first
    | ((with_reducible refine xa4 14 ?_);refine xac (by simp[Region.wanted,yielded,Act.put,h2d]) _ (xba at23' (.tmp 3) rfl _ 24 (bvs p) rfl h2.p (by rw[xae];exact HP.out)) ?_)
    | ((with_reducible refine xa4 15 ?_);refine xac (by simp[Region.wanted,yielded,Act.put,h2d]) _ (xba at23' (.tmp 4) rfl _ 24 (bvs q) rfl h2.q (by rw[xae];exact HQ.out)) ?_)
    | (go_at_call 147;refine(xkn p q _ HP.out HQ.out).mono ?_;rintro e w1 ⟨rfl,hw1⟩))
   go_ret;exact⟨rfl,h2.b.trans (hw1.mono h2.b.size)⟩
def fbN(x:Nat)(k:Int)(b:Bool):Nat :=
 if k≤0 then (if b then 255 else 0) else if k<8 then (x &&& (255 - 255 / 2^k.toNat)) ||| ((if b then 255 else 0) &&& (255 / 2^k.toNat)) else x
theorem fb_mid:∀ x,x<256→∀ k,k<8→∀ b:Bool,((x &&& (255 - 255 / 2^k)) ||| ((if b then 255 else 0) &&& (255 / 2^k))<256 ∧
  ∀ e,e<8→((x &&& (255 - 255 / 2^k)) ||| ((if b then 255 else 0) &&& (255 / 2^k))).testBit (7 - e)=if e<k then x.testBit (7 - e) else b):=by decide +kernel
theorem fb_all:∀ b:Bool,∀ e,e<8→(if b then 255 else 0:Nat).testBit (7 - e)=b:=by decide +kernel
theorem xqo(x:Nat)(hx:x<256)(k:Int)(b:Bool):fbN x k b<256:=by
 unfold fbN
 split
 ·split<;>omega
 ·split
  ·exact(fb_mid x hx k.toNat (by omega) b).1
  ·exact hx
theorem fbN_bit(x:Nat)(hx:x<256)(k:Int)(b:Bool)(e:Nat)(he:e<8):(fbN x k b).testBit (7 - e)=if (e:Int)<k then x.testBit (7 - e) else b:=by
 unfold fbN
 split
 ·rw[fb_all b e he,if_neg (by omega)]
 ·split
  ·rw[(fb_mid x hx k.toNat (by omega) b).2 e he]
   by_cases h:(e:Int)<k
   ·rw[if_pos h,if_pos (by omega)]
   ·rw[if_neg h,if_neg (by omega)]
  ·rw[if_pos (by omega)]
def xd0(p:LU)(d:Nat)(b:Bool)(k:Nat):LU:=(List.range 32).map fun i=>if i<k then UInt8.ofNat (fbN (p.getD i 0).toNat ((d:Int) - 8*(i:Int)) b) else p.getD i 0
theorem xbu(p:LU)(d:Nat)(b:Bool)(k:Nat):(xd0 p d b k).length=32:=by simp[xd0]
theorem xdo(p:LU)(d:Nat)(b:Bool)(k i:Nat)(hi:i<32):(xd0 p d b k).getD i 0=if i<k then UInt8.ofNat (fbN (p.getD i 0).toNat ((d:Int) - 8*(i:Int)) b) else p.getD i 0:=by
 unfold xd0;rw[List.getD_eq_getElem?_getD,List.getElem?_map,List.getElem?_range hi];rfl
theorem xko{l m:LU}(hl:l.length=32)(hm:m.length=32)(h:∀ i,i<32→l.getD i 0=m.getD i 0):l=m:=by
 apply List.ext_getElem?;intro i;by_cases hi:i<32
 ·have:=h i hi
  rw[List.getD_eq_getElem?_getD,List.getD_eq_getElem?_getD,List.getElem?_eq_getElem (by omega),List.getElem?_eq_getElem (by omega)] at this;rw[List.getElem?_eq_getElem (by omega),List.getElem?_eq_getElem (by omega)];simpa using this
 ·rw[List.getElem?_eq_none (by omega),List.getElem?_eq_none (by omega)]
theorem xo2(p:LU)(d:Nat)(b:Bool)(hp:p.length=32):xd0 p d b 0=p :=
 xko (xbu _ _ _ _) hp fun i hi=>by rw[xdo _ _ _ _ _ hi,if_neg (by omega)]
theorem xo3(l:LU)(k i:Nat)(x:UInt8)(hk:k<l.length):(l.set k x).getD i 0=if i=k then x else l.getD i 0:=by
 rw[List.getD_eq_getElem?_getD,List.getElem?_set];by_cases h:k=i
 ·subst h;rw[if_pos rfl,if_pos hk,if_pos rfl];rfl
 ·rw[if_neg h,if_neg (fun e=>h e.symm),List.getD_eq_getElem?_getD]
theorem xo4(p:LU)(d:Nat)(b:Bool)(k:Nat)(hk:k<32):(xd0 p d b k).set k (UInt8.ofNat (fbN (p.getD k 0).toNat ((d:Int) - 8*(k:Int)) b))=xd0 p d b (k+1) :=
 xko (by simp[xbu]) (xbu _ _ _ _) fun i hi=>by
  rw[xo3 _ _ _ _ (by rw[xbu];exact hk),xdo _ _ _ _ _ hi,xdo _ _ _ _ _ hi];by_cases h:i=k
  ·subst h;rw[if_pos rfl,if_pos (by omega)]
  ·rw[if_neg h]
   by_cases h2:i<k
   ·rw[if_pos h2,if_pos (by omega)]
   ·rw[if_neg h2,if_neg (by omega)]
theorem xo5(p:LU)(d:Nat)(b:Bool)(k:Nat)(hk:k<32)(h8:8≤(d:Int) - 8*(k:Int)):xd0 p d b k=xd0 p d b (k+1) :=
 xko (xbu _ _ _ _) (xbu _ _ _ _) fun i hi=>by
  rw[xdo _ _ _ _ _ hi,xdo _ _ _ _ _ hi];by_cases h:i=k
  ·subst h;rw[if_neg (by omega),if_pos (by omega)]
   unfold fbN;rw[if_neg (by omega),if_neg (by omega),UInt8.ofNat_toNat]
  ·by_cases h2:i<k
   ·rw[if_pos h2,if_pos (by omega)]
   ·rw[if_neg h2,if_neg (by omega)]
theorem xqp(p:LU)(d:Nat)(b:Bool)(hp:p.length=32)(hd:d≤256):xd0 p d b 32=be 32 (xhb (nOf p) d b):=by
 apply key_of (xbu _ _ _ _) (xol _ _ _ (xeh hp) hd);intro e he;rw[xlt _ _ _ _ he hd];unfold tb;rw[xdo _ _ _ _ _ (by omega),if_pos (by omega),UInt8.toNat_ofNat_of_lt' (xqo _ (UInt8.toNat_lt _) _ _),fbN_bit _ (UInt8.toNat_lt _) _ _ _ (by omega)];have e1:=xdw p hp e he;unfold tb at e1;by_cases h:e<d
 ·rw[if_pos h,if_pos (by omega),e1]
 ·rw[if_neg h,if_neg (by omega)]
theorem mix_word(x z m:Nat)(hx:x<256)(hz:z<256)(hm:m<8) :
  Value.int .u8 (bits .or .u8 (bits .andNot .u8 (x:Int) (255 / 2^m)) (bits .and .u8 (z:Int) (255 / 2^m)))=.int .u8 (((x &&& (255 - 255 / 2^m)) ||| (z &&& (255 / 2^m)):Nat):Int):=by
 have e2:(255:Int) / 2^m=((255 / 2^m:Nat):Int):=by simp
 have e3:255 / 2^m<256:=Nat.lt_of_le_of_lt (Nat.div_le_self _ _) (by omega);rw[e2,u8_andNot_nat _ _ hx e3,u8_and_nat _ _ hz e3,u8_or_nat _ _ (Nat.lt_of_le_of_lt Nat.and_le_left hx) (Nat.lt_of_le_of_lt Nat.and_le_left hz)]
theorem xm7{α:Type}(L vs:List α)(h:vs.length=L.length):splice L 0 vs=vs:=by
 unfold splice;rw[List.drop_eq_nil_of_le (by omega)];simp
theorem xc4(q:LU)(hq:q.length=32):splice (bvs keyZ) 0 (bvs q)=bvs q:=xm7 _ _ (by rw[xae,xae,xa7,hq])
theorem xqq(n:Nat)(h:n<256):bv (UInt8.ofNat n)=.int .u8 (n:Int):=by
 unfold bv;rw[UInt8.toNat_ofNat_of_lt' h]
def keyE(b:Bool):Nat:=if b then 255 else 0
def xgz(p:LU)(d:Int)(b:Bool):LU:=if 0≤d∧d≤256 then be 32 (xhb (nOf p) d.toNat b) else keyZ
def fillE(d:Int):Int:=if 0≤d∧d≤256 then 0 else 2
theorem xhh(p:LU)(d:Int)(b:Bool):(xgz p d b).length=32:=by unfold xgz;split;exact xca _ _;exact xa7
theorem xqr(p:LU)(d:Int)(b:Bool)(w:World)(hp:p.length=32)(hd : -9223372036854775808≤d∧d≤9223372036854775807) :
  Calls prog 247 #[arr8 p,iV d,.int .u8 (keyE b:Nat)] w fun e w' =>
   e=.returned (.tuple #[arr8 (xgz p d b),iV (fillE d)])∧Bw w w':=by
 have HP:=hZ hp;have h2:=Two.mk' w 24 p keyZ;have hz8:keyE b<256:=by unfold keyE;split<;>omega
 unfold xgz fillE;by_cases hr:0≤d∧d≤256
 ·rw[if_pos hr,if_pos hr]
  obtain⟨n,rfl⟩:=Int.eq_ofNat_of_zero_le hr.1;have hn:n≤256:=by omega
  rw[Int.toNat_natCast,← xqp p n b hp hn];clear hr hd hp;have HF:Hid (keyE b=if b then 255 else 0):=rfl;generalize keyE b=z at *;unfold arr8;go_enter func247,ntmps247;go_wp2_with fail
  go_loopw [18] (fun i wr=>∃ k:Nat,k≤32∧i=.int .i64 (k:Int)∧Blk wr w.heap.size 24 (bvs (xd0 p n b k))∧Blk wr (w.heap.size+1) 24 (bvs keyZ)∧Bw w wr) (fun i _=>32 - (intOf i).toNat)
  case atStart=>exact⟨0,by omega,by go_num,by rw[xo2 p n b HP.out];exact h2.p,h2.q,h2.b⟩
  case round =>
   obtain⟨k,hk,rfl,hb,hq,hw⟩:=hrel;by_cases hlt:k<32
   ·have hc:wr.cell? ⟨w.heap.size,k,none⟩=some (.int .u8 ((p.getD k 0).toNat:Int)):=by
     rw[xhd hb (xbu _ _ _ _) k hlt,xdo _ _ _ _ _ hlt,if_neg (by omega)]
    have hf:=hb.free k;have hx8:(p.getD k 0).toNat<256:=UInt8.toNat_lt _;have hsucc:=hZ (xo4 p n b k hlt);have hsame:=hZ (xo5 p n b k hlt);obtain⟨x,hx⟩:∃ x,x=(p.getD k 0).toNat:=⟨_,rfl⟩;rw[← hx] at hc hx8;have HX:=hZ hx;clear hx;by_cases hk0:(n:Int) - 8*(k:Int)≤0
    ·go_wp2_with fail
     go_roundw
     case rel =>
      have h1:=hb.set_ k (bv (UInt8.ofNat (fbN (p.getD k 0).toNat ((n:Int) - 8*(k:Int)) b)));rw[xmx,hsucc.out,xqq _ (xqo _ (UInt8.toNat_lt _) _ _)] at h1;have e1:fbN (p.getD k 0).toNat ((n:Int) - 8*(k:Int)) b=z:=by unfold fbN;rw[if_pos hk0];exact HF.out.symm
      rw[e1] at h1;exact⟨k+1,by omega,by go_num,h1,hq.far (by simp) _,hw.setCell (Nat.le_refl _) _⟩
     case measure=>simp only[intOf];omega
    ·obtain⟨m,hm⟩:=Int.eq_ofNat_of_zero_le (show 0≤(n:Int) - 8*(k:Int) by omega)
     by_cases hk8:m<8
     ·have hmix:=mix_word x z m hx8 hz8 hk8
      rw[hm] at hsucc hk0;go_wp2_with fail;go_roundw
      case rel =>
       have h1:=hb.set_ k (bv (UInt8.ofNat (fbN (p.getD k 0).toNat (m:Int) b)));rw[xmx,hsucc.out,xqq _ (xqo _ (UInt8.toNat_lt _) _ _)] at h1
       have e1:fbN (p.getD k 0).toNat (m:Int) b=(x &&& (255 - 255 / 2^m)) ||| (z &&& (255 / 2^m)):=by
        unfold fbN;rw[if_neg hk0,if_pos (by omega),Int.toNat_natCast,← HX.out,HF.out]
       rw[e1] at h1;exact⟨k+1,by omega,by go_num,h1,hq.far (by simp) _,hw.setCell (Nat.le_refl _) _⟩
      case measure=>simp only[intOf];omega
     ·have e8:=hsame.out (by omega)
      have E8:=hZ e8;clear e8;go_wp2_with fail;go_roundw
      case rel=>exact⟨k+1,by omega,by go_num,by rw[← E8.out];exact hb,hq,hw⟩
      case measure=>simp only[intOf];omega
   ·obtain rfl:k=32:=by omega
    go_wp2_with (first
     | ((with_reducible refine xa4 48 ?_);refine xaa rfl _ (xba at23' (.tmp 3) rfl _ 24 (bvs (xd0 p n b 32)) rfl hb (by rw[xae];exact xbu _ _ _ _)) ?_)
     | ((with_reducible refine xeg (Op.store 24 (.tmp 6) (.tmp 48)) ?_)
        refine xal at23'.i rfl (.tmp 6) (.tmp 48) rfl (w.heap.size+1) 0 24 (bvs keyZ) (bvs (xd0 p n b 32)) rfl rfl hq (by rw[xae];exact xbu _ _ _ _) (by rw[xae];simp[keyZ]) (xb0 _) ?_
        intro w1 hb1 hg1 hs1))
    refine Xc ?_;rw[xc4 _ (xbu _ _ _ _)] at hb1;refine bodyPost_ret (xay rfl at23' _ _ (w.heap.size+1) 24 (bvs (xd0 p n b 32)) rfl hb1 (by rw[xae];exact xbu _ _ _ _)) rfl ?_;exact⟨rfl,hw.grown hg1 hw.size (by intro k hk;cases hk;omega)⟩
 ·rw[if_neg hr,if_neg hr]
  clear hp;unfold arr8;by_cases h0:d<0
  ·go_enter func247,ntmps247
   go_wp2_with (
      (with_reducible refine xeg (Op.store 24 (.tmp 6) (.tmp 17)) ?_);refine xal at23'.i rfl (.tmp 6) (.tmp 17) rfl (w.heap.size+1) 0 24 (bvs keyZ) (bvs keyZ) rfl rfl h2.q (by rw[xae];exact xa7) (by rw[xae];simp[keyZ]) (xb0 _) ?_
      intro w1 hb1 hg1 hs1)
   refine Xc ?_;rw[xc4 _ xa7] at hb1;refine bodyPost_ret (xay rfl at23' _ _ (w.heap.size+1) 24 (bvs keyZ) rfl hb1 (by rw[xae];exact xa7)) rfl ?_;exact⟨rfl,h2.b.grown hg1 h2.b.size (by intro k hk;cases hk;omega)⟩
  ·have h1:256<d:=by omega
   go_enter func247,ntmps247
   go_wp2_with (
      (with_reducible refine xeg (Op.store 24 (.tmp 6) (.tmp 17)) ?_);refine xal at23'.i rfl (.tmp 6) (.tmp 17) rfl (w.heap.size+1) 0 24 (bvs keyZ) (bvs keyZ) rfl rfl h2.q (by rw[xae];exact xa7) (by rw[xae];simp[keyZ]) (xb0 _) ?_
      intro w1 hb1 hg1 hs1)
   refine Xc ?_;rw[xc4 _ xa7] at hb1;refine bodyPost_ret (xay rfl at23' _ _ (w.heap.size+1) 24 (bvs keyZ) rfl hb1 (by rw[xae];exact xa7)) rfl ?_;exact⟨rfl,h2.b.grown hg1 h2.b.size (by intro k hk;cases hk;omega)⟩
theorem xuh(p:LU)(d:Int)(w:World)(hp:p.length=32)(hd : -9223372036854775808≤d∧d≤9223372036854775807) :
  Calls prog 219 #[arr8 p,iV d] w (oB w (.tuple #[arr8 (xgz p d false),iV (fillE d)])):=by
 have HP:=hZ hp;have h2:=Two.mk' w 24 p keyZ;have hx0:=xhh p d false;have hcall:=fun W=>xqr p d false W hp hd
 generalize xgz p d false=x at *;have hx:=hZ hx0;have HC:=hZ hcall;clear hx0 hcall hp;unfold arr8;go_enter func219,ntmps219
 go_wp2_with (first
  | ((with_reducible refine xa4 6 ?_);refine xaa rfl _ (xba at23' (.tmp 2) rfl _ 24 (bvs p) rfl h2.p (by rw[xae];exact HP.out)) ?_)
  | (go_at_call 247;refine(HC.out _).mono ?_;rintro e w1 ⟨rfl,hw1⟩)
  | ((with_reducible refine xeg (Op.store 24 (.tmp 4) (.tmp 9)) ?_)
     refine xal at23'.i rfl (.tmp 4) (.tmp 9) rfl (w.heap.size+1) 0 24 (bvs keyZ) (bvs x) rfl rfl (h2.q.below hw1 h2.q.lt) (by rw[xae];exact hx.out) (by rw[xae];simp[keyZ]) (xb0 _) ?_
     intro w2 hb1 hg1 hs1))
 refine Xc ?_;rw[xc4 _ hx.out] at hb1;refine bodyPost_ret (xay rfl at23' _ _ (w.heap.size+1) 24 (bvs x) rfl hb1 (by rw[xae];exact hx.out)) rfl ?_;exact⟨rfl,(h2.b.trans (hw1.mono h2.b.size)).grown hg1 (Nat.le_trans h2.b.size hw1.size) (by intro k hk;cases hk;omega)⟩
end Go.Proofs.YtkjjdgnkelchfaaGreat
