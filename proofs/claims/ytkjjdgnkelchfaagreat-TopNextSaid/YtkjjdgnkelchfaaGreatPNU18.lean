import Derived.Test.YtkjjdgnkelchfaaGreatPNU16
set_option linter.unusedSimpArgs false
set_option linter.unusedVariables false
set_option maxRecDepth 100000
set_option maxHeartbeats 16000000
namespace Go.Proofs.YtkjjdgnkelchfaaGreat
open Go Go.RowKit Go.Proofs.Tryz
section
variable {σ:Sb}{R R':List Int}
theorem xjy(hI:σ.Inv R []){z:Int}{d:Nat}{t:Tre}(ht:IsT σ z d t)(hz:z≠0)(h1:1≤R.count z)(hRl:R.length≤536870912)(hs:t.size≤1000000) :
  ∃ (i:Nat)(hi:i<σ.slots.length),z=(i:Int)+1∧σ.slots[i].count≠0∧σ.slots[i].nd.dig=t.dg∧σ.slots[i].nd.size=(t.size:Int)∧(σ.slots[i].nd.kind=if t.isIn then 2 else 1)∧(0<σ.slots[i].nd.held∧σ.slots[i].nd.held≤4611686018427387904)∧(0≤σ.slots[i].nd.size∧σ.slots[i].nd.size≤1073741824)∧(∀ k∈t.keys,∀ e,e<d→tb σ.slots[i].nd.key.l e=tb k.l e):=by
 obtain⟨i,hi,ei,ci,di,si,ki,_,kyi⟩:=ht.nz hz;refine⟨i,hi,ei,ci,di,si,ki,?_,by rw[si];omega,kyi⟩;have q1:=hI.held i hi;rw[ei] at h1;have q3:=hI.held_le i hi;omega
theorem xn7(hI:σ.Inv R []):(σ.next:Int)≠0:=by
 obtain⟨i0,hx,_⟩:=hI.taken ⟨Nd.z,0,[]⟩;omega
theorem xh3(hI:σ.Inv R [])(d:Nat)(hd:d<256)(zl zr:Int)(l r:Tre)(hl:IsT σ zl (d+1) l)(hr:IsT σ zr (d+1) r)(hok:(Tre.inner l r).Ok d)
  (hR:∀ z,R.count z=R'.count z+(if z=zl∧zl≠0 then 1 else 0)+(if z=zr∧zr≠0 then 1 else 0)) (hRl:R.length≤536870912) (hroom:σ.used<σ.room) (hsz:l.size+r.size≤1000000) :
  ∃ (z:Int)(σ':Sb),(∀ (D:Nat→Prop)(w:World)(gs g:Nat)(vs vf:Sv),StP D w gs g σ vs vf→Calls prog 210 #[pG gs,iV d,iV zl,iV zr] w (Goes D w gs g (.tuple #[iV z,iV 0]) σ')) ∧
   z≠0∧σ'.Inv (z::R') []∧σ.Stays σ'∧IsT σ' z d (.inner l r)∧σ'.room=σ.room∧σ'.used=σ.used+1:=by
 obtain⟨_,hol,hor,hbl,hbr,hall,hl0,hr0⟩:=id hok;have hN:=hI.nice;by_cases hzl:zl=0
 ·subst hzl
  have:=hl.zero;subst this;have hri:r.isIn=true:=(hl0 rfl).1;have hrk:=Tre.Ok.ne hor hri;have hzr:zr≠0:=fun e=>by subst e;have:=hr.zero;subst this;cases hri
  obtain⟨j,hj,ej,cj,dj,sj,kj,hhj,hsj,kyj⟩:=xjy hI hr hzr (by
   have q1:=hR zr;have q2:(if zr=zr∧zr≠0 then 1 else 0:Nat)=1:=if_pos ⟨rfl,hzr⟩
   omega) hRl (by omega)
  subst ej;have hfr:=xhu hj hr hbr hrk;have kk:σ.slots[j].nd.kind=2:=by rw[kj,hri];rfl
  have HF:=hI.oneSide (R':=R') hroom d j hd hj hr (l:=.nil) (r:=r) (fun z=>by rw[hR z,if_neg (by simp)];by_cases hq:z=(j:Int)+1<;>simp[hq,hzr]) ⟨xco d σ.slots[j].nd.key tagE σ.slots[j].nd.dig 0 ((j:Int)+1) σ.slots[j].nd.size,1,[]⟩ rfl rfl rfl rfl (by show tagI tagE σ.slots[j].nd.dig=_;rw[dj];rfl) (by show σ.slots[j].nd.size=_;rw[sj];simp[Tre.size]) rfl (.inr ⟨rfl,rfl,rfl,rfl⟩) hrk (fun k hk k' hk' x hx=>hall k (by simp[hk]) k' (by simp[hk']) x hx) _ rfl;exact⟨_,_,fun D w gs g vs vf h=>xge h hN d hd j _ rfl hj _ rfl cj hfr hhj hsj kk hroom,xn7 hI,HF.1,HF.2.1,HF.2.2.1,HF.2.2.2.1,HF.2.2.2.2⟩
 ·by_cases hzr:zr=0
  ·subst hzr
   have:=hr.zero;subst this;have hli:l.isIn=true:=(hr0 rfl).1;have hlk:=Tre.Ok.ne hol hli
   obtain⟨i,hi,ei,ci,di,si,ki,hhi,hsi,kyi⟩:=xjy hI hl hzl (by
    have q1:=hR zl;have q2:(if zl=zl∧zl≠0 then 1 else 0:Nat)=1:=if_pos ⟨rfl,hzl⟩
    omega) hRl (by omega)
   subst ei;have hfl:=xht hi hl hbl hlk;have kk:σ.slots[i].nd.kind=2:=by rw[ki,hli];rfl
   have HF:=hI.oneSide (R':=R') hroom d i hd hi hl (l:=l) (r:=.nil) (fun z=>by rw[hR z];by_cases hq:z=(i:Int)+1<;>simp[hq,hzl]) ⟨xco d σ.slots[i].nd.key σ.slots[i].nd.dig tagE ((i:Int)+1) 0 σ.slots[i].nd.size,1,[]⟩ rfl rfl rfl rfl (by show tagI σ.slots[i].nd.dig tagE=_;rw[di];rfl) (by show σ.slots[i].nd.size=_;rw[si];simp[Tre.size]) rfl (.inl ⟨rfl,rfl,rfl,rfl⟩) hlk (fun k hk k' hk' x hx=>hall k (by simp[hk]) k' (by simp[hk']) x hx) _ rfl;exact⟨_,_,fun D w gs g vs vf h=>xg2 h hN d hd i _ rfl hi _ rfl ci hfl hhi hsi kk hroom,xn7 hI,HF.1,HF.2.1,HF.2.2.1,HF.2.2.2.1,HF.2.2.2.2⟩
  ·obtain⟨i,hi,ei,ci,di,si,ki,hhi,hsi,kyi⟩:=xjy hI hl hzl (by
    have q1:=hR zl;have q2:(if zl=zl∧zl≠0 then 1 else 0:Nat)=1:=if_pos ⟨rfl,hzl⟩
    omega) hRl (by omega)
   obtain⟨j,hj,ej,cj,dj,sj,kj,hhj,hsj,kyj⟩:=xjy hI hr hzr (by
    have q1:=hR zr;have q2:(if zr=zr∧zr≠0 then 1 else 0:Nat)=1:=if_pos ⟨rfl,hzr⟩
    omega) hRl (by omega)
   have hlk:l.keys≠[]:=fun e=>hzl (by have:=xcf hol e;subst this;exact hl)
   have hrk:r.keys≠[]:=fun e=>hzr (by have:=xcf hor e;subst this;exact hr)
   subst ei;subst ej;have hfl:=xht hi hl hbl hlk;have hfr:=xhu hj hr hbr hrk
   have hne:i≠j:=fun e=>by
    subst e;have q1:=hfl.bit;have q2:=hfr.bit;omega
   have hcm:d≤comm σ.slots[i].nd.key.l σ.slots[j].nd.key.l:=by
    obtain⟨k1,hk1⟩:=List.exists_mem_of_ne_nil _ hlk;obtain⟨k2,hk2⟩:=List.exists_mem_of_ne_nil _ hrk;refine Nat.le_of_not_lt fun hlt=>?_
    refine xc1 σ.slots[i].nd.key.l σ.slots[j].nd.key.l (by omega) ?_;rw[kyi k1 hk1 _ (by omega),kyj k2 hk2 _ (by omega)];exact hall k1 (by simp[hk1]) k2 (by simp[hk2]) _ hlt
   have HF:=hI.both (R':=R') hroom d i j hd hi hj hne hl hr hok (fun z=>by rw[hR z];simp only[hzl,hzr,ne_eq,not_false_eq_true,and_true]) _ rfl;exact⟨_,_,fun D w gs g vs vf h=>xfa h hN d hd i _ rfl hi _ rfl ci hfl hhi hsi j _ rfl hj _ rfl cj hfr hhj hsj hne hcm hroom,xn7 hI,HF.1,HF.2.1,HF.2.2.1,HF.2.2.2.1,HF.2.2.2.2⟩
theorem xgk(hI:σ.Inv R [])(z:Int)(hz:z≠0)(d:Nat)(t:Tre)(ht:IsT σ z d t)(hRl:R.length≤536870912) :
  ∃ σ':Sb,(∀ (D:Nat→Prop)(w:World)(gs g:Nat)(vs vf:Sv),StP D w gs g σ vs vf→Calls prog 129 #[pG gs,iV z] w (Goes D w gs g (iV 0) σ'))∧σ'.Inv (z::R) []∧σ.Stays σ'∧σ'.room=σ.room∧σ'.used=σ.used:=by
 obtain⟨i,hi,hzi,hc,_⟩:=ht.nz hz;have hcl:=hI.count_le i hi;have hhl:=hI.held_le i hi;have hok:=hI.ok;have h1:=hok.few;have h2:=hok.r2;have hcp:=hI.count i hi;simp only[qs] at hcl;subst hzi;refine⟨σ.hold i hi,fun D w gs g vs vf h=>(xju h _ i rfl hi (by omega) (by omega) (by omega)).mono ?_,(hI.hold i hi hc).1,Sb.Stays.hold i hi (by omega),rfl,rfl⟩;rintro e w' ⟨rfl,hP,hf⟩;exact⟨D,vs,vf,rfl,hP,Stp.of_fr hf (fun k hk=>h.sb.own k hk)⟩
end
def sdT(key:D32)(d:Nat):Tre→Tre
 | .inner l r=>if tb key.l d then r else l
 | _=>.nil
def sdY(key:D32)(d:Nat):Tre→Tre
 | .inner l r=>if tb key.l d then l else r
 | _=>.nil
def subF(key:D32):Nat→Tre→Nat→Tre
 | _,t,0=>t
 | d,t,n+1=>subF key (d+1) (sdT key d t) n
theorem xdb(key:D32):∀ (n d:Nat)(t:Tre),subF key d t (n+1)=sdT key (d+n) (subF key d t n)
 | 0,d,t=>rfl
 | n+1,d,t=>by
  have h:=xdb key n (d+1) (sdT key d t);show subF key (d+1) (sdT key d t) (n+1)=_;rw[h,Nat.add_right_comm];rfl
def Near(key:D32)(d:Nat)(t:Tre):Prop:=∀ k∈t.keys,∀ e,e<d→tb k.l e=tb key.l e
theorem xn8{key:D32}{d:Nat}{t:Tre}(h:t.Ok d)(hn:Near key d t)(hi:t.isIn=true):(sdT key d t).Ok (d+1)∧Near key (d+1) (sdT key d t)∧(sdY key d t).Ok (d+1)∧d<256∧(sdT key d t).size+(sdY key d t).size=t.size∧(sdY key d t=.nil→(sdT key d t).isIn=true)∧(sdT key d t=.nil→(sdY key d t).isIn=true):=by
 cases t with
 | nil=>cases hi
 | leaf k v=>cases hi
 | inner l r =>
  obtain⟨hd,o1,o2,b1,b2,_,e1,e2⟩:=h;unfold sdT sdY
  cases hb:tb key.l d with
  | true =>
   refine⟨o2,fun k hk e he=>?_,o1,hd,by show r.size+l.size=l.size+r.size;omega,fun e=>?_,fun e=>?_⟩
   ·by_cases h2:e=d
    ·subst h2;rw[b2 k hk,hb]
    ·exact hn k (List.mem_append.2 (.inr hk)) e (by omega)
   ·have e:l=.nil:=e
    subst e;exact(e1 rfl).1
   ·have e:r=.nil:=e
    subst e;exact(e2 rfl).1
  | false =>
   refine⟨o1,fun k hk e he=>?_,o2,hd,rfl,fun e=>?_,fun e=>?_⟩
   ·by_cases h2:e=d
    ·subst h2;rw[b1 k hk,hb]
    ·exact hn k (List.mem_append.2 (.inl hk)) e (by omega)
   ·have e:r=.nil:=e
    subst e;exact(e2 rfl).1
   ·have e:l=.nil:=e
    subst e;exact(e1 rfl).1
structure WayT (σ:Sb)(key:D32)(d:Nat)(t:Tre)(z:Int)(way:List Int)(fin:Int):Prop where
 wy:Way σ key z way fin
 ln:d≤256→way.length+d≤256
 sub:∀ (i:Nat)(h:i<way.length),(subF key d t i).isIn=true∧IsT σ way[i] (d+i) (subF key d t i)
 fn:IsT σ fin (d+way.length) (subF key d t way.length)
 out:(subF key d t way.length).isIn=false
theorem xjz(σ:Sb)(key:D32):∀ (t:Tre)(z:Int)(d:Nat),IsT σ z d t→t.Ok d→∃ (way:List Int)(fin:Int),WayT σ key d t z way fin
 | .nil,z,d,h,_=>by
  have h:z=0:=h;subst h;have hg:Got σ 0 Nd.z [] false:=.inr ⟨rfl,by omega,rfl,rfl⟩;exact⟨[],0,.stop _ _ _ _ hg (by decide),by simp,fun i h=>absurd h (Nat.not_lt_zero _),rfl,rfl⟩
 | .leaf k v,z,d,h,_=>by
  obtain⟨i,hi,e,h1,h2,h3,h4⟩:=id h;have hg:Got σ z σ.slots[i].nd σ.slots[i].val true:=.inl ⟨rfl,i,e,hi,rfl,rfl,h1⟩;exact⟨[],z,.stop _ _ _ _ hg (by rw[h3];decide),by simp,fun i h=>absurd h (Nat.not_lt_zero _),h,rfl⟩
 | .inner l r,z,d,h,ok=>by
  obtain⟨hd,o1,o2,_⟩:=ok;obtain⟨i,hi,e,h1,h2,h3,h4,h5,h6,h7,h8⟩:=id h;have hg:Got σ z σ.slots[i].nd σ.slots[i].val true:=.inl ⟨rfl,i,e,hi,rfl,rfl,h1⟩
  have hs:∃ (way:List Int)(fin:Int),WayT σ key (d+1) (sdT key d (.inner l r)) (sdO key d σ.slots[i].nd) way fin:=by
   unfold sdT sdO
   cases hb:tb key.l d with
   | true=>exact xjz σ key r _ _ h8 o2
   | false=>exact xjz σ key l _ _ h7 o1
  obtain⟨way,fin,p⟩:=hs;refine⟨z::way,fin,.step z _ _ d way fin hg h2 hd h3 p.wy,fun _=>?_,fun j hj=>?_,?_,p.out⟩
  ·have:=p.ln (by omega);simp only[qr];omega
  ·cases j with
   | zero=>exact⟨rfl,h⟩
   | succ j =>
    have:=p.sub j (by simpa using hj);rw[Nat.add_right_comm] at this;exact this
  ·have:=p.fn
   rw[Nat.add_right_comm] at this;exact this
theorem xrh{key:D32}{t:Tre}(h:t.Ok 0):∀ n:Nat,(∀ i,i<n→(subF key 0 t i).isIn=true)→(subF key 0 t n).Ok n∧Near key n (subF key 0 t n)∧(subF key 0 t n).size≤t.size
 | 0,_=>⟨h,fun k _ e he=>absurd he (Nat.not_lt_zero _),Nat.le_refl _⟩
 | n+1,hi=>by
  obtain⟨h1,h2,h3⟩:=xrh h n fun i hn=>hi i (by omega)
  have h4:=xn8 h1 h2 (hi n (by omega));rw[xdb,Nat.zero_add];exact⟨h4.1,h4.2.1,by omega⟩
def e1(key:D32)(o:Option LU):WE:=(⟨key,o.isNone,Sv.nil⟩,o.getD [])
theorem pw_e1(key:D32)(o:Option LU):pw (e1 key o)=(key,o):=by cases o<;>rfl
theorem xfo(key:D32)(o:Option LU):xbc [e1 key o] = [key]:=rfl
abbrev SpK(d:Nat)(told:Tre)(key:D32)(o:Option LU)(t:Tre):Prop:=SpB d told [e1 key o] t
theorem SpK.ent{d:Nat}{told t:Tre}{key:D32}{o:Option LU}(h:SpK d told key o t)(k:D32)(v:LU):(k,v)∈t.ents↔((k=key∧o=some v)∨(k≠key∧(k,v)∈told.ents)):=by
 rw[h.sp,xfo];simp only[qk,ql,pw_e1,List.mem_singleton,Prod.mk.injEq];constructor
 ·rintro(⟨h1,h2⟩ | h1)
  ·exact .inl ⟨h1,h2.symm⟩
  ·exact .inr h1
 ·rintro(⟨h1,h2⟩ | h1)
  ·exact .inl ⟨h1,h2.symm⟩
  ·exact .inr h1
theorem SpK.of{d:Nat}{told t:Tre}{key:D32}{o:Option LU}(hok:t.Ok d)(hs:t.size≤told.size+1)(h:∀ k v,(k,v)∈t.ents↔((k=key∧o=some v)∨(k≠key∧(k,v)∈told.ents))):SpK d told key o t:=by
 refine⟨hok,fun k v=>?_,hs⟩;rw[h,xfo];simp only[qk,ql,pw_e1,List.mem_singleton,Prod.mk.injEq];constructor
 ·rintro(⟨h1,h2⟩ | h1)
  ·exact .inl ⟨h1,h2.symm⟩
  ·exact .inr h1
 ·rintro(⟨h1,h2⟩ | h1)
  ·exact .inl ⟨h1,h2.symm⟩
  ·exact .inr h1
def jnK(key:D32)(d:Nat)(own other:Tre):Tre:=if tb key.l d then .inner other own else .inner own other
def jnT(key:D32)(d:Nat)(own other:Tre):Tre:=if tb key.l d then xb1 other own else xb1 own other
theorem xpy{key:D32}{d:Nat}{own other:Tre}(h1:own.keys≠[])(h2:own.isIn=true∨other.keys≠[]):jnT key d own other=jnK key d own other:=by
 unfold jnT jnK xb1
 cases tb key.l d with
 | true =>
  simp only[if_true];rw[if_neg,if_neg]
  ·exact fun e=>h1 e.1
  ·rintro⟨e1,e2⟩
   rcases h2 with h2 | h2
   ·rw[e2] at h2;cases h2
   ·exact h2 e1
 | false =>
  simp only[Bool.false_eq_true,if_false];rw[if_neg,if_neg]
  ·rintro⟨e1,e2⟩
   rcases h2 with h2 | h2
   ·rw[e2] at h2;cases h2
   ·exact h2 e1
  ·exact fun e=>h1 e.1
theorem jn_nil{key:D32}{d:Nat}{other:Tre}(h:other.isIn=true)(hk:other.keys≠[]):jnT key d .nil other=jnK key d .nil other:=by
 unfold jnT jnK xb1
 cases tb key.l d with
 | true =>
  simp only[if_true];rw[if_neg (fun e=>hk e.1),if_neg (fun e=>by rw[h] at e;cases e.2)]
 | false =>
  simp only[Bool.false_eq_true,if_false];rw[if_neg (fun e=>by rw[h] at e;cases e.2),if_neg (fun e=>hk e.1)]
theorem jn_leaf{key:D32}{d:Nat}{other:Tre}(h:other.isIn=false):jnT key d .nil other=other:=by
 unfold jnT xb1
 cases tb key.l d with
 | true =>
  simp only[if_true]
  split
  ·next e =>
   cases other with
   | nil=>rfl
   | leaf k v=>cases e.1
   | inner l r=>cases h
  ·rw[if_pos ⟨rfl,h⟩]
 | false =>
  simp only[Bool.false_eq_true,if_false];rw[if_pos ⟨rfl,h⟩]
theorem jn_gone{key:D32}{d:Nat}{own:Tre}(h:own.isIn=false):jnT key d own .nil=own:=by
 unfold jnT xb1
 cases tb key.l d with
 | true =>
  simp only[if_true];rw[if_pos ⟨rfl,h⟩]
 | false =>
  simp only[Bool.false_eq_true,if_false]
  split
  ·next e =>
   cases own with
   | nil=>rfl
   | leaf k v=>cases e.1
   | inner l r=>cases h
  ·rw[if_pos ⟨rfl,h⟩]
theorem xn9{key:D32}{d:Nat}{t t1:Tre}{o:Option LU}(hok:t.Ok d)(hn:Near key d t)(hi:t.isIn=true)(h:SpK (d+1) (sdT key d t) key o t1):SpK d t key o (jnT key d t1 (sdY key d t)):=by
 cases t with
 | nil=>cases hi
 | leaf k v=>cases hi
 | inner l r =>
  obtain⟨hd,o1,o2,b1,b2,hall,_⟩:=id hok
  have hal:Alike d ((Tre.inner l r).keys++xbc [e1 key o]):=by
   intro k hk k' hk' e he
   have hx:∀ k∈(Tre.inner l r).keys++xbc [e1 key o],tb k.l e=tb key.l e:=fun k hk=>by
    rcases List.mem_append.1 hk with hk | hk
    ·exact hn k hk e he
    ·rw[xfo] at hk
     rw[List.mem_singleton.1 hk]
   rw[hx k hk,hx k' hk']
  unfold sdT at h;unfold jnT sdY
  cases hb:tb key.l d with
  | true =>
   rw[hb] at h;have hk:∀ k∈xbc [e1 key o],tb k.l d=true:=fun k hk=>by rw[xfo] at hk;rw[List.mem_singleton.1 hk];exact hb
   exact xjw (a:=[]) (b:=[e1 key o]) hd hal b1 b2 (fun k hk=>by cases hk) hk (xnx o1) h
  | false =>
   rw[hb] at h;have hk:∀ k∈xbc [e1 key o],tb k.l d=false:=fun k hk=>by rw[xfo] at hk;rw[List.mem_singleton.1 hk];exact hb
   exact xjw (a:=[e1 key o]) (b:=[]) hd hal b1 b2 hk (fun k hk=>by cases hk) h (xnx o2)
theorem spk_new{key:D32}{d:Nat}{v:LU}(hd:d≤256)(hv:v.length≤1024):SpK d .nil key (some v) (.leaf key v) :=
 .of ⟨hv,hd⟩ (by simp[Tre.size]) fun k u=>by
  simp only[Tre.ents,List.mem_singleton,Prod.mk.injEq,List.not_mem_nil,and_false,or_false,Option.some.injEq];exact⟨fun h=>⟨h.1,h.2.symm⟩,fun h=>⟨h.1,h.2.symm⟩⟩
theorem spk_over{key:D32}{d:Nat}{u v:LU}(hd:d≤256)(hv:v.length≤1024):SpK d (.leaf key u) key (some v) (.leaf key v) :=
 .of ⟨hv,hd⟩ (by simp[Tre.size]) fun k x=>by
  simp only[Tre.ents,List.mem_singleton,Prod.mk.injEq,Option.some.injEq];constructor
  ·rintro⟨rfl,rfl⟩;exact .inl ⟨rfl,rfl⟩
  ·rintro(⟨rfl,rfl⟩ | ⟨h1,h2,_⟩)
   ·exact⟨rfl,rfl⟩
   ·exact absurd h2 h1
theorem spk_gone{key:D32}{d:Nat}{u:LU}:SpK d (.leaf key u) key none .nil :=
 .of trivial (by simp[Tre.size]) fun k x=>by
  simp only[Tre.ents,List.mem_singleton,Prod.mk.injEq,List.not_mem_nil,false_iff];rintro(⟨_,h⟩ | ⟨h1,h2,_⟩)
  ·cases h
  ·exact h1 h2
theorem spk_fork{key k':D32}{d:Nat}{u v:LU}(hd:d<256)(hv:v.length≤1024)(hu:u.length≤1024)(hs:∀ e,e<d→tb k'.l e=tb key.l e)(hn:tb k'.l d≠tb key.l d):SpK d (.leaf k' u) key (some v) (jnK key d (.leaf key v) (.leaf k' u)):=by
 have hne:k'≠key:=fun e=>hn (by rw[e])
 have hok:(jnK key d (.leaf key v) (.leaf k' u)).Ok d:=by
  unfold jnK
  cases hb:tb key.l d with
  | true =>
   have hb2:tb k'.l d=false:=by cases h:tb k'.l d with | false=>rfl | true=>exact absurd (by rw[h,hb]) hn
   refine⟨hd,⟨hu,by omega⟩,⟨hv,by omega⟩,fun k hk=>?_,fun k hk=>?_,fun k hk k2 hk2 e he=>?_,fun h=>(by cases h),fun h=>(by cases h)⟩
   ·rw[List.mem_singleton.1 hk];exact hb2
   ·rw[List.mem_singleton.1 hk];exact hb
   ·simp only[Tre.keys,List.mem_append,List.mem_singleton] at hk hk2
    rcases hk with rfl | rfl<;>rcases hk2 with rfl | rfl<;>simp[hs e he]
  | false =>
   have hb2:tb k'.l d=true:=by cases h:tb k'.l d with | true=>rfl | false=>exact absurd (by rw[h,hb]) hn
   refine⟨hd,⟨hv,by omega⟩,⟨hu,by omega⟩,fun k hk=>?_,fun k hk=>?_,fun k hk k2 hk2 e he=>?_,fun h=>(by cases h),fun h=>(by cases h)⟩
   ·rw[List.mem_singleton.1 hk];exact hb
   ·rw[List.mem_singleton.1 hk];exact hb2
   ·simp only[Tre.keys,List.mem_append,List.mem_singleton] at hk hk2
    rcases hk with rfl | rfl<;>rcases hk2 with rfl | rfl<;>simp[hs e he]
 refine .of hok (by unfold jnK;split<;>simp[Tre.size]) fun k x=>?_
 have hm:(k,x)∈(jnK key d (.leaf key v) (.leaf k' u)).ents↔((k=key∧x=v)∨(k=k'∧x=u)):=by
  unfold jnK
  split
  ·simp only[Tre.ents,List.mem_append,List.mem_singleton,Prod.mk.injEq];exact or_comm
  ·simp only[Tre.ents,List.mem_append,List.mem_singleton,Prod.mk.injEq]
 rw[hm];simp only[Tre.ents,List.mem_singleton,Prod.mk.injEq,Option.some.injEq];constructor
 ·rintro(⟨rfl,rfl⟩ | ⟨rfl,rfl⟩)
  ·exact .inl ⟨rfl,rfl⟩
  ·exact .inr ⟨hne,rfl,rfl⟩
 ·rintro(⟨rfl,rfl⟩ | ⟨_,rfl,rfl⟩)
  ·exact .inl ⟨rfl,rfl⟩
  ·exact .inr ⟨rfl,rfl⟩
theorem xu4{key k':D32}{d:Nat}{u v:LU}{t:Tre}(hd:d<256)(hs:∀ e,e≤d→tb k'.l e=tb key.l e)(h:SpK (d+1) (.leaf k' u) key (some v) t)(hi:t.isIn=true):SpK d (.leaf k' u) key (some v) (jnK key d t .nil):=by
 have hk:∀ k∈t.keys,∀ e,e≤d→tb k.l e=tb key.l e:=fun k hk e he=>by
  have h2:=xhz h k hk;rw[xfo] at h2;simp only[Tre.keys,List.mem_append,List.mem_singleton] at h2;rcases h2 with rfl | rfl
  ·exact hs e he
  ·rfl
 refine .of ?_ ?_ fun k x=>?_
 ·unfold jnK
  cases hb:tb key.l d with
  | true=>exact⟨hd,trivial,h.ok,fun k hk=>(by cases hk),fun k hk'=>by rw[hk k hk' d (Nat.le_refl _),hb],fun k h1 k2 h2 e he=>by
    rw[hk k (by simpa[Tre.keys] using h1) e (by omega),hk k2 (by simpa[Tre.keys] using h2) e (by omega)],fun _=>⟨hi,rfl⟩,fun e=>absurd e (Tre.Ok.ne h.ok hi)⟩
  | false=>exact⟨hd,h.ok,trivial,fun k hk'=>by rw[hk k hk' d (Nat.le_refl _),hb],fun k hk=>(by cases hk),fun k h1 k2 h2 e he=>by
    rw[hk k (by simpa[Tre.keys] using h1) e (by omega),hk k2 (by simpa[Tre.keys] using h2) e (by omega)],fun e=>absurd e (Tre.Ok.ne h.ok hi),fun _=>⟨hi,rfl⟩⟩
 ·have:=h.sz
  rw[List.length_singleton] at this;unfold jnK
  split
  ·show 0+t.size≤_
   omega
  ·show t.size+0≤_
   omega
 ·have e:(jnK key d t .nil).ents=t.ents:=by
   unfold jnK
   split<;>simp[Tre.ents]
  rw[e,h.ent]
theorem xri{P:Program}{T:TypeId}{w:World}{a:Act}{o:Oper}(B:W1 P T)(x:Operand)(ho:o.op=.load T x)(ad:Addr)(v:Value)(hx:a.eval x=.pointer (some ad))(hc:w.cell? ad=some v):(execOp a.eval o).run P w=.ok (.value v) w:=by
 obtain⟨d,hu,hd⟩:=B.u;exact xb6 hu hd x ho _ _ hx hc
section
variable {D:Nat→Prop}{w w':World}{gs g:Nat}{σ:Sb}{vs vf:Sv}
theorem find_own(h:StW D w gs σ)(root:Int)(key:D32)(A:Option Addr)(m c:Nat)(way:List Int)(fin:Int)(hway:Way σ key root way fin)(hl:way.length≤4096)
  (hroot:∀ u,StW D u gs σ→Calls prog 154 #[pG gs,iV root] u (oB u (iV 0)))
  (n:Nd) (val:LU) (ok:Bool) (hG:Got σ fin n val ok) (hk:n.kind=1) (hne:n.key.l=key.l) (cv:LU) (hr:Rd w A (bvs cv)) (hcl:cv.length=m) (hvn:val.length≤1024) (sm:Bool) (hsm:(val==cv)=sm) :
  Calls prog 145 #[pG gs,iV root,key.a,.slice A m c] w fun e w'=>∃ v:Sv,e=.returned (.agg (Plc.cells ⟨v,fin,sm,false⟩).toArray)∧w'.ownsRow 0 3 1 v.v way.length (iZ way)∧(∀ k,v.v.ownBlock=some k→w.heap.size≤k)∧Bw w w':=by
 have HH:=hZ h;have HR:=hZ hroot;have HW:=hZ hway;have HG:=hZ hG;have k1:((n.kind:Int)==1)=true:=by rw[hk];rfl
 have HNE:Hid ((n.key.l==key.l)=true):=hZ (by simpa using hne);have HCR:=hZ hr;have HCL:=hZ hcl;have HVN:=hZ hvn;have HSM:=hZ hsm;clear hne hr hcl hvn hsm;clear h hroot hway hG hk;obtain⟨w0,rfl,HL⟩:=lS w;go_enter func145,ntmps145;go_upto_region 0 with fail;refine Xt ?_;refine X85 ?_;clear HL;intro g6 w HL;refine X6 ?_;refine xah xl4 rfl rfl HL ?_;clear HL;intro g8 w HL;refine X1z ?_;refine X86 ?_;intro hg6;refine X87 ?_;intro hg8 hg8l;refine X88 ?_;intro h68 hg6l;go_upto_region 1 with fail;refine X19 ?_;refine X89 ?_;refine X50 ?_;intro K hK;refine X8a ?_;refine X8b ?_;rintro e w ⟨v,rfl,ho,hvb,hb⟩;refine X8c ?_;intro hB1
 have hv8:∀ k,v.v.ownBlock=some k→w0.heap.size≤k∧k≠g8∧k≠g6:=fun k hk=>by
  have:=hvb k hk;have:=HL.below.size;omega
 replace HL:=HL.redo (T:=fun _=>False) (Fr.of_below hb) (fun _ _ f=>f);clear hb hvb;have HO:=hZ ho;clear ho;obtain⟨w1,rfl⟩:=eW w;refine X8d ?_;clear hK K;refine X8e ?_;refine xa3 sc71 rfl _ _ rfl HL 0 _ _ _ _ _ _ rfl rfl rfl rfl (by rw[Plc.len];decide) (Plc.s_above _ _) ?_;refine X33 ?_;clear HL;intro w HL;refine X8f ?_;refine xa3 sc3 rfl _ _ rfl HL 0 _ _ _ _ _ _ rfl rfl rfl rfl (by rw[Plc.len];decide) (Plc.s_fin _ _) ?_;refine X34 ?_;clear HL;intro w HL
 have hL0:∀ x∈[(g8,246,Plc.z.cells),(g6,24,key.c)],w0.heap.size≤x.1:=by
  intro x hx;simp at hx;rcases hx with rfl | rfl
  ·exact hg8
  ·exact hg6
 go_upto_region 2 with fail;refine X12 ?_;refine X8f ?_;refine X8g ?_;refine X50 ?_;intro K hK;refine X7w ?_;refine X8h ?_;refine X4y ?_;clear hK K;intro w HL;refine X1t ?_;go_upto_region 3 with fail;refine X8i ?_;refine X8x ?_;intro HL;refine X8y ?_;refine X6 ?_;refine X8z ?_;refine X6 ?_;refine X5r ?_;refine X91 ?_;intro K hK;refine X92 ?_;refine X7q ?_;clear hK K;intro w HL;refine X94 ?_;refine X4p ?_;refine X8p ?_;intro hb8 HX;clear HL;have HL:=HX;clear HX;replace hb8:=hb8.drew;go_upto_region 4 with fail;refine rB (Loc.P HL) [] [4,5,6,17,19] [0,1,2,3,7,8,11,4,5,12,13,14,15,6,9,10,16,17,18,19] 0 ?_;refine X8x ?_;intro HL;refine X8y ?_;refine X3g ?_;refine xab rfl rfl HL (fun W hW=>xbz bt _ rfl A m c rfl cv (HCR.out.below (hB1.trans (hW.belowR _ hB1.size hL0))) HCL.out) ?_;refine X3g ?_
 refine Xg ?_;intro K hK;refine xbj (xri sc3 _ rfl _ _ rfl (by rw[hb8.cell];exact Plc.g_fin _)) ?_;refine X3y ?_;clear hK K;intro K hK;refine X96 ?_;(with_reducible refine(xks (HH.out.below (hB1.trans (HL.belowR _ hB1.size hL0))) _ n val ok HG.out HVN.out).mono ?_);rintro e w ⟨v1,rfl,hov,hb⟩;obtain⟨y,rfl,hyl,hyc,hym,hyr,_⟩:=xkt hov;have HY:=hZ (And.intro hyl hyr);replace HL:=HL.next hb;replace hb8:=hb8.below hb hb8.lt;clear hb hov hyl hyc hym hyr;refine X5a ?_;clear hK K;refine X71 ?_;refine X3i ?_;refine X3j ?_;refine Xh ?_;intro K hK;refine xbj (xbz bt _ rfl y.A y.n y.c rfl val HY.out.2 HY.out.1) ?_;refine X3x ?_;clear hK K;refine xab rfl rfl HL (fun W hW=>xmh underlying9 _ _ rfl val cv rfl rfl HSM.out) ?_;refine X93 ?_;refine X8r ?_;refine Xh ?_;intro K hK
 refine xcx sc4 _ _ rfl g8 2 246 _ (.bool sm) rfl hb8 rfl rfl (by rw[Plc.len];decide) ?_;intro w' hb' hf' _;rw[Plc.s_same] at hb';replace HL:=HL.frame hf' (fun k hk hd=>hd.2 (g8,246,Plc.z.cells) (.head _) hk.symm) (by simp;omega);refine hK _ _ (fun _=>HL) ?_;clear hK K hb8 hf';have hb8:=hb';clear hb';obtain⟨w,rfl⟩:∃ w,w=w':=⟨_,rfl⟩;refine X6 ?_;refine X8s ?_;refine Xh ?_;intro K hK;refine xcx sc4 _ _ rfl g8 3 246 _ (.bool false) rfl hb8 rfl rfl (by rw[Plc.len];decide) ?_;intro w' hb' hf' _;rw[Plc.s_other] at hb';replace HL:=HL.frame hf' (fun k hk hd=>hd.2 (g8,246,Plc.z.cells) (.head _) hk.symm) (by simp;omega);refine hK _ _ (fun _=>HL) ?_;clear hK K hb8 hf';have hb8:=hb';clear hb';obtain⟨w,rfl⟩:∃ w,w=w':=⟨_,rfl⟩;refine Xb ?_;refine X8t ?_;intro hB2
 have hO2:w.ownsRow 0 3 1 v.v way.length (iZ way):=xbm HO.out (fun k hk=>HL.heap ⟨by obtain⟨cs,hc⟩:=xb4 HO.out hk;exact hc.lt,fun x hx e=>by
  simp at hx;have:=hv8 k hk;rcases hx with rfl | rfl
  ·exact this.2.1 e.symm
  ·exact this.2.2 e.symm⟩)
 clear HL;have HL:=(Loc.start w).adopt (fun k=>k=g8) [(g8,246,Plc.cells ⟨v,fin,sm,false⟩)] (by simp;exact hb8) (by simp);simp only[qn] at HL;obtain⟨w2,rfl⟩:=eW w;go_upto_region 5 with fail;refine Xt ?_;refine X8u ?_;refine X6 ?_;refine X8v ?_;refine X34 ?_;clear HL;intro w HL;go_wp2_with fail;refine Xc ?_;refine X8w ?_;have hf:=HL.frS;refine⟨v,rfl,xbm hO2 (fun k hk=>hf.block k (by obtain⟨cs,hc⟩:=xb4 hO2 hk;exact hc.lt) (hv8 k hk).2.1),fun k hk=>(hv8 k hk).1,hB2.trans ⟨hf.os,hf.tape,hf.output,hf.size,fun k hk=>hf.block k (by have:=hB2.size;omega) (by omega)⟩⟩
end
def StO(D:Nat→Prop)(w1:World)(gs g:Nat)(σ1:Sb)(wx:World):Prop:=∃ D1 vs1 vf1,StP D1 wx gs g σ1 vs1 vf1∧Stp D w1 D1 wx
structure InS (D:Nat→Prop)(w1:World)(gs g:Nat)(σ:Sb)(RR:List Int)(u:Nat)(σ1:Sb)(wx:World):Prop where
 st:StO D w1 gs g σ1 wx
 inv:σ1.Inv RR []
 stay:σ.Stays σ1
 room:σ1.room=σ.room
 used:σ1.used≤u
section
variable {D:Nat→Prop}{w w1 wx wy:World}{gs g:Nat}{σ σ1 σ2:Sb}{RR R R':List Int}{u:Nat}
theorem StO.below(h:StO D w1 gs g σ1 wx)(hb:Bw wx wy):StO D w1 gs g σ1 wy:=by
 obtain⟨D1,vs1,vf1,h1,h2⟩:=h;exact⟨D1,vs1,vf1,h1.below hb,h2.trans (Stp.of_below hb)⟩
theorem StO.loc(h:StO D w1 gs g σ1 wx):Loc w1 (fun k=>Old w1 k∧¬ D k) [] wx:=by
 obtain⟨D1,vs1,vf1,h1,h2⟩:=h;exact(Loc.start' w1 _ (fun k hk=>hk.1)).frame h2.fr (fun k hk hd=>hd.2 hk) (fun x hx=>by cases hx)
theorem StO.q{Q:Ending→World→Prop}{n:Nat}{args:Array Value}(h:StO D w1 gs g σ1 wx)(hC:∀ D1,StW D1 wx gs σ1→Calls prog n args wx Q):Calls prog n args wx Q:=by
 obtain⟨D1,vs1,vf1,h1,h2⟩:=h;exact hC D1 h1.sw
theorem StO.goes'{r:Value}(h:StO D w1 gs g σ1 wx){n:Nat}{args:Array Value}(hC:∀ (D:Nat→Prop)(w:World)(vs vf:Sv),StP D w gs g σ1 vs vf→Calls prog n args w (Goes D w gs g r σ2)) :
  Calls prog n args wx fun e w'=>e=.returned r∧StO D w1 gs g σ2 w':=by
 obtain⟨D1,vs1,vf1,h1,h2⟩:=h;refine(hC D1 wx vs1 vf1 h1).mono ?_;rintro e w' ⟨D2,vs2,vf2,rfl,h3,h4⟩;exact⟨rfl,D2,vs2,vf2,h3,h2.trans h4⟩
theorem InS.below(h:InS D w1 gs g σ RR u σ1 wx)(hb:Bw wx wy):InS D w1 gs g σ RR u σ1 wy:=⟨h.st.below hb,h.inv,h.stay,h.room,h.used⟩
theorem InS.next(h:InS D w1 gs g σ RR u σ1 wx)(hs:StO D w1 gs g σ2 wy){RR':List Int}(hi:σ2.Inv RR' [])(hy:σ1.Stays σ2)(hr:σ2.room=σ1.room){u':Nat}(hu:σ2.used≤u'):InS D w1 gs g σ RR' u' σ2 wy:=⟨hs,hi,h.stay.trans hy,by rw[hr,h.room],hu⟩
theorem xef(a z:Int)(ha:a≠0):(if (a==z)=true then 1 else 0:Nat)=if z=a∧a≠0 then 1 else 0:=by
 rw[xd2];simp[ha]
theorem xoa(hI:σ1.Inv RR [])(d:Nat)(hd:d<256)(key:D32)(own other:Int)(t o:Tre)(ht:IsT σ1 own (d+1) t)(ho:IsT σ1 other (d+1) o)(hok:(jnK key d t o).Ok d)
  (hR:∀ z,RR.count z=R'.count z+(if z=own∧own≠0 then 1 else 0)+(if z=other∧other≠0 then 1 else 0)) (hRl:RR.length≤536870912) (hroom:σ1.used<σ1.room) (hsz:t.size+o.size≤1000000) :
  ∃ (z:Int)(σ2:Sb),(∀ (D:Nat→Prop)(w:World)(vs vf:Sv),StP D w gs g σ1 vs vf→Calls prog 149 #[pG gs,iV d,key.a,iV own,iV other] w (Goes D w gs g (iV z) σ2)) ∧
   z≠0∧σ2.Inv (z::R') []∧σ1.Stays σ2∧IsT σ2 z d (jnK key d t o)∧σ2.room=σ1.room∧σ2.used=σ1.used+1:=by
 unfold jnK at hok ⊢
 cases hb:tb key.l d with
 | true =>
  rw[hb] at hok;obtain⟨z,σ2,h1,h2⟩:=xh3 hI d hd other own o t ho ht hok (R':=R') (fun z=>by rw[hR z];omega) hRl hroom (by omega);exact⟨z,σ2,fun D w vs vf h=>xpd h d hd key own other z σ2 hb (fun u hu=>h1 D u gs g vs vf hu),h2⟩
 | false =>
  rw[hb] at hok;obtain⟨z,σ2,h1,h2⟩:=xh3 hI d hd own other t o ht ho hok (R':=R') hR hRl hroom hsz;exact⟨z,σ2,fun D w vs vf h=>xum h d hd key own other z σ2 hb (fun u hu=>h1 D u gs g vs vf hu),h2⟩
theorem xk6{root z:Int}{T:Tre}(h:InS D w1 gs g σ (rt1 z (root::R)) u σ1 wx)(hI0:σ.Inv (root::R) [])(h0:root≠0)(hT:IsT σ1 z 0 T)(hRl:R.length≤400000000) :
  Calls prog 130 #[pG gs,iV root] wx fun e w'=>∃ (m:Int)(σ2:Sb),e=.returned (.tuple #[iV m,iV 0])∧StO D w1 gs g σ2 w'∧σ2.Inv (rt1 z R) []∧σ.Keeps R σ2∧IsT σ2 z 0 T∧σ2.room=σ.room∧σ2.used≤u:=by
 obtain⟨⟨D1,vs1,vf1,hP,hS⟩,hI,hY,hr,hu⟩:=h;have hmr:root∈rt1 z (root::R):=by unfold rt1;split<;>simp
 obtain⟨i,hi,hzi⟩:=hI.root root hmr
 have hct:∀ y,(rt1 z (root::R)).count y=(rt1 z R).count y+if y=(i:Int)+1 then 1 else 0:=fun y=>by
  unfold rt1
  split
  ·rw[List.count_cons,hzi,xd2]
  ·rw[List.count_cons,List.count_cons,List.count_cons,hzi,xd2];omega
 have hl1:=xd5 z (root::R);have hl2:=xd5 z R;simp only[qr] at hl1;refine(xf0 hP _ (rt1 z R) hI root i hzi hi hct (by omega) (by omega)).mono ?_;rintro e w' ⟨m,D2,vs2,vf2,σ2,rfl,hP2,hS2,hI2,hK2,hu2,hr2,_⟩;have hK0:σ.Keeps (root::R) σ1:=hY.keeps hI0;have hsub:∀ y∈R,y∈rt1 z R:=fun y hy=>by unfold rt1;split<;>simp[hy]
 have hKR:σ.Keeps R σ1:=hK0.less (fun y hy=>by simp[hy]);refine⟨m,σ2,rfl,⟨D2,vs2,vf2,hP2,hS.trans hS2⟩,hI2,hKR.trans hK2 (fun i hi hl=>hKR.live hsub hl),hT.keep hK2 hI2 (fun y hy=>hy) ?_,by rw[hr2,hr],by omega⟩;by_cases hz:z=0
 ·exact .inl hz
 ·exact .inr (.root _ (by unfold rt1;rw[if_neg hz];simp))
end
def smT(key:D32)(cv:LU):Tre→Bool
 | .leaf k v=>(k.l==key.l)&&(v==cv)
 | _=>false
def otT(key:D32):Tre→Bool
 | .leaf k _=>!(k.l==key.l)
 | _=>false
section
variable {D:Nat→Prop}{w w':World}{gs g:Nat}{σ:Sb}{vs vf:Sv}
theorem find_any(h:StW D w gs σ)(root:Int)(key:D32)(told:Tre)(way:List Int)(fin:Int)(hw:WayT σ key 0 told root way fin)(hok:(subF key 0 told way.length).Ok way.length)
  (hroot:∀ u,StW D u gs σ→Calls prog 154 #[pG gs,iV root] u (oB u (iV 0))) (A:Option Addr) (m c:Nat) (cv:LU) (hr:Rd w A (bvs cv)) (hcl:cv.length=m) :
  Calls prog 145 #[pG gs,iV root,key.a,.slice A m c] w fun e w'=>∃ v:Sv,e=.returned (.agg (Plc.cells ⟨v,fin,smT key cv (subF key 0 told way.length),otT key (subF key 0 told way.length)⟩).toArray)∧w'.ownsRow 0 3 1 v.v way.length (iZ way)∧(∀ k,v.v.ownBlock=some k→w.heap.size≤k)∧Bw w w':=by
 have hl:way.length≤4096:=by have:=hw.ln (by omega);omega
 have hf:=hw.fn;have ho:=hw.out;rw[Nat.zero_add] at hf;generalize subF key 0 told way.length=T at *
 cases T with
 | nil =>
  have hf:fin=0:=hf;have hg:Got σ fin Nd.z [] false:=.inr ⟨rfl,by omega,rfl,rfl⟩;exact xl6 h root key A m c way fin hw.wy hl hroot _ _ _ hg (by decide)
 | inner l r=>cases ho
 | leaf k v =>
  obtain⟨i,hi,e,h1,h2,h3,h4,h5,h6,h7,h8,h9⟩:=hf;have hg:Got σ fin σ.slots[i].nd σ.slots[i].val true:=.inl ⟨rfl,i,e,hi,rfl,rfl,h1⟩;by_cases hk:k.l=key.l
  ·have e1:smT key cv (.leaf k v)=(v==cv):=by simp[smT,hk]
   have e2:otT key (.leaf k v)=false:=by simp[otT,hk]
   rw[e1,e2];exact find_own h root key A m c way fin hw.wy hl hroot _ _ _ hg h3 (by rw[h4,hk]) cv hr hcl (by rw[h2];exact hok.1) _ (by rw[h2])
  ·have e1:smT key cv (.leaf k v)=false:=by simp[smT,hk]
   have e2:otT key (.leaf k v)=true:=by simp[otT,hk]
   rw[e1,e2];exact xl7 h root key A m c way fin hw.wy hl hroot _ _ _ hg h3 (by rw[h4];exact hk)
end
theorem xu5{key:D32}{d:Nat}{t:Tre}{p:Ent}(h:p∈(sdT key d t).ents):p∈t.ents:=by
 cases t with
 | nil=>cases h
 | leaf k v=>cases h
 | inner l r =>
  cases hb:tb key.l d with
  | true=>exact List.mem_append.2 (.inr (by simpa[sdT,hb] using h))
  | false=>exact List.mem_append.2 (.inl (by simpa[sdT,hb] using h))
theorem xpz{key:D32}{t:Tre}{p:Ent}:∀ n:Nat,p∈(subF key 0 t n).ents→p∈t.ents
 | 0,h=>h
 | n+1,h=>by
  rw[xdb] at h;exact xpz n (xu5 h)
theorem spk_has{d:Nat}{told t:Tre}{key:D32}{v:LU}(h:SpK d told key (some v) t):t.keys≠[]:=fun e=>by
 have:=xbs ((h.ent key v).2 (.inl ⟨rfl,rfl⟩));rw[e] at this;cases this
theorem xrj{σ σ1:Sb}{key:D32}{told:Tre}{root:Int}{way:List Int}{fin:Int}(hw:WayT σ key 0 told root way fin)(hS:σ.Stays σ1)(i:Nat)(hi:i<way.length) :
  ∃ (zw:Int)(n:Nd)(val:LU),way[i]? = some zw∧Got σ1 zw n val true∧IsT σ1 (sdX key i n) (i+1) (sdY key i (subF key 0 told i))∧(sdX key i n=0↔sdY key i (subF key 0 told i)=.nil):=by
 obtain⟨h1,h2⟩:=hw.sub i hi;rw[Nat.zero_add] at h2;generalize subF key 0 told i=T at *
 cases T with
 | nil=>cases h1
 | leaf k v=>cases h1
 | inner l r =>
  obtain⟨j,hj,e,c1,c2,c3,c4,c5,c6,c7,c8⟩:=h2.stay hS;refine⟨_,_,_,List.getElem?_eq_getElem hi,.inl ⟨rfl,j,e,hj,rfl,rfl,c1⟩,?_⟩;have hz:∀ {z:Int} {t:Tre},IsT σ1 z (i+1) t→(z=0↔t=.nil):=fun ht=>⟨fun e=>by subst e;exact ht.zero,fun e=>by subst e;exact ht⟩
  unfold sdX sdY
  cases hb:tb key.l i with
  | true=>exact⟨c7,hz c7⟩
  | false=>exact⟨c8,hz c8⟩
theorem iZ_at{way:List Int}{i:Nat}{z:Int}(h:way[i]? = some z):(iZ way)[i*1]? = some (iV z):=by simp[iZ,h]
def WrO(D:Nat→Prop)(w:World)(gs g:Nat)(σ:Sb)(R:List Int)(told:Tre)(key:D32)(o:Option LU)(mk:Int→Value)(e:Ending)(w':World):Prop :=
 ∃ (t:Tre)(z:Int)(D':Nat→Prop)(vs' vf':Sv)(σ':Sb),e=.returned (mk z)∧StP D' w' gs g σ' vs' vf'∧Stp D w D' w'∧σ'.Inv (rt1 z R) []∧σ.Keeps R σ'∧IsT σ' z 0 t∧σ'.room=σ.room∧σ'.used≤σ.used+257∧SpK 0 told key o t
def mkP(z:Int):Value:=.tuple #[iV z,iV 0]
section
variable {D:Nat→Prop}{w w':World}{gs g:Nat}{σ:Sb}{vs vf:Sv}
theorem put_any(h:StP D w gs g σ vs vf)(R:List Int)(root:Int)(told:Tre)(hI:σ.Inv (rt1 root R) [])(ht:IsT σ root 0 told)(hok:told.Ok 0)(key:D32)(A:Option Addr)(n c:Nat)(cv:LU)(hr:Rd w A (bvs cv))(hn:cv.length=n∧n≤c∧c≤maxLen∧n≤1024)
  (hRl:R.length≤400000000) (hts:told.size≤400000) (hfit:σ.used+258≤σ.room) :
  Calls prog 90 #[pG gs,iV root,key.a,.slice A n c] w (WrO D w gs g σ R told key (some cv) mkP):=by
 refine Xcz ?_;intro HH HI HT;have HOK:=hZ hok;have HN:=hZ hn;have HF:=hZ hfit;have HR:=hZ hr;have HRL:Hid ((rt1 root R).length≤400000001∧R.length≤400000000):=hZ ⟨by have:=xd5 root R;omega,hRl⟩;have HTS:=hZ hts;have r1:=h.sb.ok.r1;have r2:=h.sb.ok.r2;have kroom:((σ.room:Int)==0)=false:=by simp;omega
 have klen:decide ((1024:Int)<(n:Int))=false:=by simp;omega
 obtain⟨way,fin,hw⟩:=xjz σ key told root 0 ht hok;have HW:=hZ hw;refine Xgq ?_;intro HSO;have HML:Hid (way.length≤256):=hZ (by have:=hw.ln (by omega);omega);have HMO:Hid ((subF key 0 told way.length).isIn=false):=hZ hw.out;refine Xgr ?_;intro HRT;have HRO:Hid (∀ u,StW D u gs σ→Calls prog 154 #[pG gs,iV root] u (oB u (iV 0))):=hZ (fun u hu=>by obtain⟨g',vs',vf',hu'⟩:=hu;exact xn2 hu' ht);obtain⟨sm,hsm⟩:∃ sm,smT key cv (subF key 0 told way.length)=sm:=⟨_,rfl⟩;obtain⟨ot,hot⟩:∃ ot,otT key (subF key 0 told way.length)=ot:=⟨_,rfl⟩;have HSM:=hZ hsm;have HOT:=hZ hot
 have CF:∀ u,Bw w u→Hid (Calls prog 145 #[pG gs,iV root,key.a,.slice A n c] u fun e w'=>∃ v:Sv,e=.returned (.agg (Plc.cells ⟨v,fin,sm,ot⟩).toArray)∧w'.ownsRow 0 3 1 v.v way.length (iZ way)∧(∀ k,v.v.ownBlock=some k→u.heap.size≤k)∧Bw u w'):=fun u hu=>hZ (by
  have:=find_any (h.below hu).sw root key told way fin hw (HSO.out _ (Nat.le_refl _)).1 HRO.out A n c cv (hr.below hu) hn.1;rw[hsm,hot] at this
  exact this)
 have hDO:∀ k,D k→k<w.heap.size:=h.sb.lt;clear h hI ht hok hn hfit hr hRl hts hw hsm hot;obtain⟨w0,rfl,HL⟩:=lS w;go_enter func90,ntmps90;go_upto_region 0 with fail;refine Xt ?_;refine X85 ?_;clear HL;intro g6 w HL;refine X1g ?_;go_upto_region 1 with fail;refine X80 ?_;intro K hK;refine X9d ?_;rintro e w ⟨rfl,rfl⟩;refine X5k ?_;clear hK K;refine X9e ?_;refine X1z ?_;go_upto_region 3 with fail;refine X12 ?_;refine X5m ?_;refine X6 ?_;refine X9f ?_;refine X1z ?_;go_upto_region 5 with fail;refine X2j ?_;intro K hK;refine X9g ?_;(with_reducible refine(HRT.out _ (HH.out.below HL.below)).mono ?_);refine X7u ?_;clear hK K;intro w HL;go_upto_region 6 with fail;refine X2n ?_;go_upto_region 8 with fail;refine X1v ?_;intro K hK;refine X9h ?_;refine X9i ?_;rintro e w ⟨rfl,rfl⟩;refine X1y ?_;clear hK K;refine X28 ?_
 have hb60:w0.heap.size≤g6:=Nat.le_of_not_lt (HL.own _ (.head _)).1;go_upto_region 10 with fail;refine X19 ?_;refine X6y ?_;intro K hK;refine xad cf145 rfl _ rfl ?_;refine X1w ?_;(with_reducible refine((CF _ HL.below).out).mono ?_);rintro e w ⟨v,rfl,ho,hvb,hb⟩;refine Xgs ?_;intro HB1;have hsz6:=(HL.blk (.head _)).lt;have hsz0:=HL.below.size;have HL1:=HL.after hb
 have hWR:Rd w v.A (iZ way)∧v.n=way.length:=by
  obtain⟨A',c',e1,_,_,h4⟩:=xfq ho;obtain⟨vA,vn,vc⟩:=v;injection e1 with e1 e2 e3;subst e1 e2 e3;exact⟨h4,rfl⟩
 have hWV:∀ ad,v.A=some ad→iZ way≠[]→w0.heap.size≤ad.block∧ad.block<w.heap.size∧ad.block≠g6:=fun ad e hne=>by
  have h1:=hWR.1.lt hne e
  have h2:=hvb ad.block (by
   rcases ho.2 with⟨e1,e2⟩ | ⟨gg,cc,_,e1,_⟩
   ·obtain⟨vA,vn,vc⟩:=v
    injection e1 with e1 e2 e3;subst e1;cases e
   ·obtain⟨vA,vn,vc⟩:=v
    injection e1 with e1 e2 e3
    subst e1;cases e;rfl)
  exact⟨by omega,h1,by omega⟩
 clear HL ho hvb hb;have HL:=HL1;clear HL1;obtain⟨w1,rfl⟩:=eW w;refine X5k ?_;clear hK K;refine xah xl4 rfl rfl HL ?_;clear HL;intro g11 w HL;refine X6 ?_;refine X8v ?_;refine X34 ?_;clear HL;intro w HL
 have HP0:Hid (StP D w gs g σ vs vf∧Bw w0 w):=hZ (by
  have h1:Bw w0 w:=HB1.out.trans (HL.belowR _ HB1.out.size (by intro x hx;simp at hx;rw[hx];exact hb60))
  exact⟨HH.out.below h1,h1⟩)
 have hB6:Blk w g6 24 key.c:=HL.blk (.tail _ (.head _));have hB11:Blk w g11 246 (Plc.cells ⟨v,fin,sm,ot⟩):=HL.blk (.head _);have hW2:Rd w v.A (iZ way):=hWR.1.keepE HL (fun hne ad e=>⟨(hWV ad e hne).2.1,fun x hx ee=>by simp at hx;rw[hx] at ee;exact(hWV ad e hne).2.2 ee.symm⟩);have hD6 : ¬ D g6:=fun h=>by have:=hDO _ h;omega
 have hD11 : ¬ D g11:=fun h=>by
  have h1:=hDO _ h;have h2:=HB1.out.size;have h3 : ¬ Rest w1 _ g11:=(HL.own _ (.head _)).1;exact h3 ⟨by omega,fun x hx ee=>by simp at hx;rw[hx] at ee;have:g6=g11:=ee;omega⟩
 have HDV:Hid (∀ ad,v.A=some ad→iZ way≠[]→ad.block<w.heap.size∧¬ D ad.block):=hZ (fun ad e hne=>⟨by have:=(hWV ad e hne).2.1;have:=HL.fr.size;omega,fun hd=>by have:=hDO _ hd;have:=(hWV ad e hne).1;omega⟩);have HVN:=hZ hWR.2;clear HL hWR hWV HB1;obtain⟨w2,rfl⟩:=eW w;have hO6:Old w2 g6∧¬ D g6:=⟨hB6.lt,hD6⟩;have hO11:Old w2 g11∧¬ D g11:=⟨hB11.lt,hD11⟩;have hc0:w2.cell? ⟨g11,0,none⟩=some v.v:=by rw[hB11.cell];exact Plc.g_above _
 have hc1:w2.cell? ⟨g11,1,none⟩=some (iV fin):=by rw[hB11.cell];exact Plc.g_fin _
 have hc2:w2.cell? ⟨g11,2,none⟩=some (.bool sm):=by rw[hB11.cell];exact Plc.g_same _
 have hc3:w2.cell? ⟨g11,3,none⟩=some (.bool ot):=by rw[hB11.cell];exact Plc.g_other _
 have hcK:(key.c.drop 0).take 32=key.c:=by rw[List.drop_zero,List.take_of_length_le (by rw[D32.cl];exact Nat.le_refl _)]
 refine Xgt ?_;intro HIN;have HRV:Hid (Rd w2 A (bvs cv)):=hZ (HR.out.below HP0.out.2);have HWR:=hZ hW2;have HB6:=hZ hB6;have HS0:Hid (Stp D w0 D w2):=hZ (Stp.of_below HP0.out.2);clear hB6 hB11 hW2 hD6 hD11 HR;have HL:=HIN.out.st.loc;refine Xgu ?_;intro HRDW;go_upto_region 11 with fail;refine Xt ?_;refine X9j ?_;refine X6 ?_;refine xaa rfl _ (xa8 sc4 HL _ rfl _ rfl _ hO11 hc2) ?_;refine X1z ?_
 cases sm with
 | true =>
  go_upto_region 12 with fail;refine X3s ?_;go_wp2_with fail;go_ret2;refine⟨told,root,D,vs,vf,σ,rfl,HP0.out.1,HS0.out,HI.out,(Sb.Keeps.refl σ R),HT.out,rfl,by omega,?_⟩
  have hm:(key,cv)∈told.ents:=by
   refine xpz (key:=key) way.length ?_;have h1:=HSM.out;generalize subF key 0 told way.length=T at *
   cases T with
   | nil=>cases h1
   | inner l r=>cases h1
   | leaf k v =>
    simp only[smT,Bool.and_eq_true,beq_iff_eq] at h1;rw[D32.ext h1.1,h1.2];simp[Tre.ents]
  refine .of HOK.out (by omega) fun k x=>⟨fun hx=>?_,fun hx=>?_⟩
  ·by_cases hk:k=key
   ·subst hk;exact .inl ⟨rfl,by rw[xky HOK.out hx hm]⟩
   ·exact .inr ⟨hk,hx⟩
  ·rcases hx with⟨rfl,h2⟩ | ⟨_,hx⟩
   ·injection h2 with h2;rw[← h2];exact hm
   ·exact hx
 | false =>
  go_upto_region 13 with fail;refine X12 ?_;refine Xgv ?_;refine X42 ?_;intro K hK;refine X9m ?_;refine X1w ?_;(with_reducible refine(xjv HP0.out.1 key A n c cv HRV.out HN.out.1 HN.out.2.1 HN.out.2.2.1 HN.out.2.2.2 (by have:=HF.out;omega)).mono ?_);rintro e w ⟨D1,vs1,vf1,x,rfl,hP1,hst⟩;obtain⟨q1,q2,q3,q4,q5,q6⟩:=xgv HI.out (by have:=HF.out;omega) key cv x 0 hP1;obtain⟨σ1,hσ1⟩:∃ σ1,σ.take ⟨xb9 key cv x,1,cv⟩=σ1:=⟨_,rfl⟩;obtain⟨z1,hz1⟩:∃ z1,(σ.next:Int)=z1:=⟨_,rfl⟩;rw[hσ1] at hP1 q1 q2 q3 q4 q5;rw[hz1] at q1 q3 q6 ⊢;have HI1:Hid (InS D w2 gs g σ (z1::rt1 root R) (σ.used+1) σ1 w):=hZ ⟨⟨D1,vs1,vf1,hP1,hst⟩,q1,q2,q4,by omega⟩;have HT1:Hid (∀ d,IsT σ1 z1 d (.leaf key cv)):=hZ (fun d=>q3);have HZ1:=hZ q6;clear hP1 hst q1 q2 q3 q4 q5 q6 hσ1 hz1 HL;have HL:=HI1.out.st.loc
  refine X7l ?_;clear hK K;go_upto_region 14 with fail;refine Xt ?_;refine X9n ?_;refine X6 ?_;refine xaa rfl _ (xa8 sc4 HL _ rfl _ rfl _ hO11 hc3) ?_;refine X1z ?_
  go_upto_if 51 with fail
  go_cut [12,14,15] from 20 (fun v c x wx=>∃ (T:Tre)(z:Int)(σ2:Sb),v=.int .i64 z∧z≠0∧InS D w2 gs g σ (z::rt1 root R) (σ.used+1+(256 - way.length)) σ2 wx∧IsT σ2 z way.length T∧SpK way.length (subF key 0 told way.length) key (some cv) T)
  case first=>as_aux_lemma =>
   cases ot with
   | false =>
    go_wp2_with fail;go_meet
    case rel =>
     refine⟨.leaf key cv,z1,σ1,rfl,HZ1.out,⟨HI1.out.st,HI1.out.inv,HI1.out.stay,HI1.out.room,by have:=HI1.out.used;omega⟩,HT1.out _,?_⟩;have h1:=HOT.out;have h2:=HMO.out;have h3:=HML.out;have h4:=HN.out;generalize subF key 0 told way.length=T at *
     cases T with
     | nil=>exact spk_new h3 (by omega)
     | inner l r=>cases h2
     | leaf k u =>
      simp only[otT,Bool.not_eq_false',beq_iff_eq] at h1;have:=D32.ext h1;subst this;exact spk_over h3 (by omega)
   | true =>
    obtain⟨k',u',HE⟩:∃ k' u',Hid (subF key 0 told way.length=.leaf k' u'∧k'≠key):=by
     have h1:=HOT.out;have h2:=HMO.out
     cases hT:subF key 0 told way.length with
     | nil=>rw[hT] at h1;cases h1
     | inner l r=>rw[hT] at h2;cases h2
     | leaf k u =>
      rw[hT] at h1;exact⟨k,u,hZ ⟨rfl,fun e=>by subst e;simp[otT] at h1⟩⟩
    have HUL:Hid (u'.length≤1024):=hZ (by have:=(HSO.out _ (Nat.le_refl _)).1;rw[HE.out.1] at this;exact this.1)
    obtain⟨nf,vl,HGF⟩:∃ nf vl,Hid (Got σ1 fin nf vl true∧nf.key=k'∧fin≠0):=by
     have h1:=HW.out.fn;rw[HE.out.1] at h1;obtain⟨j,hj,e,c1,c2,c3,c4,_⟩:=h1.stay HI1.out.stay;exact⟨_,_,hZ ⟨.inl ⟨rfl,j,e,hj,rfl,rfl,c1⟩,c4,by omega⟩⟩
    have HFT1:Hid (∀ d,IsT σ1 fin d (.leaf k' u')):=hZ (fun d=>by
     have h1:=HW.out.fn;rw[HE.out.1] at h1
     exact h1.stay HI1.out.stay)
    obtain⟨cm,hcm⟩:∃ cm,comm key.l k'.l=cm:=⟨_,rfl⟩
    have HCM:Hid (cm<256∧way.length≤cm∧(∀ e,e<cm→tb k'.l e=tb key.l e)∧tb k'.l cm≠tb key.l cm):=hZ (by
     have h1:=xr0 key.l k'.l;have h2:comm key.l k'.l≠256:=fun e=>HE.out.2 (D32.ext (comm_all key.h k'.h e).symm)
     have h3:=xc1 key.l k'.l (by omega);have h4:=(HSO.out _ (Nat.le_refl _)).2.1;rw[HE.out.1] at h4;rw[hcm] at h1 h2 h3
     refine⟨by omega,Nat.le_of_not_lt fun hlt=>h3 (h4 k' (by simp[Tre.keys]) _ hlt).symm,fun e he=>(xgm key.l k'.l e (by omega)).symm,fun e=>h3 e.symm⟩)
    have CC:∀ u,Hid (Calls prog 147 #[key.a,nf.key.a] u (oB u (iV cm))):=fun u=>hZ (by
     have:=xkp u key k';rw[hcm] at this;rw[HGF.out.2.1]
     exact this)
    clear hcm;go_upto_region 15 with fail;refine rB (Loc.P HL) [] [4,5] [0,1,2,3,4,5,6] 0 ?_;refine X3a ?_;intro HL;refine xab rfl rfl HL (fun W hW=>xc9 ag24 hW _ rfl _ _ rfl _ _ _ hO6 HB6.out hcK (D32.cl _)) ?_;refine X3g ?_;refine X8y ?_;refine X6 ?_;refine xab rfl rfl HL (fun W hW=>xa8 sc3 hW _ rfl _ rfl _ hO11 hc1) ?_;refine X91 ?_;intro K hK;(with_reducible refine((HI1.out.st.below (Below.refl _ _).drew).q (fun _ h↦xij h fin nf vl true HGF.out.1)).mono ?_);rintro e w ⟨rfl,hb⟩;have HI1b:=hZ ((HI1.out.below (Below.refl _ _).drew).below hb);clear HL hb;have HL:=HI1b.out.st.loc;refine X79 ?_;clear hK K;intro K hK;refine xad cf147 rfl _ rfl ?_;refine Xaw ?_;rintro e w ⟨rfl,hb⟩;have HI1c:=hZ (HI1b.out.below hb);clear HL hb;have HL:=HI1c.out.st.loc;refine X5v ?_;clear hK K;refine X4p ?_
    obtain⟨σ3,CH,hI3,hY3,hr3,hu3⟩:=xgk HI1c.out.inv fin HGF.out.2.2 0 _ (HFT1.out 0) (by have:=HRL.out.1;simp only[qr];omega);have HCH:=hZ CH;clear CH;go_upto_region 16 with fail;refine X12 ?_;refine X8f ?_;refine xaa rfl _ (xa8 sc3 HL _ rfl _ rfl _ hO11 hc1) ?_;refine X50 ?_;intro K hK;refine X9r ?_;(with_reducible refine(HI1c.out.st.goes' (fun D w vs vf h↦HCH.out D w gs g vs vf h)).mono ?_);rintro e w ⟨rfl,hs⟩;have HI3:Hid (InS D w2 gs g σ (fin::z1::rt1 root R) (σ.used+1) σ3 w):=hZ (HI1c.out.next hs hI3 hY3 hr3 (by rw[hu3];exact HI1c.out.used));have HT3:Hid ((∀ d,IsT σ3 z1 d (.leaf key cv))∧(∀ d,IsT σ3 fin d (.leaf k' u'))):=hZ ⟨fun d=>(HT1.out d).stay hY3,fun d=>(HFT1.out d).stay hY3⟩;clear HL hs hI3 hY3 hr3 hu3;have HL:=HI3.out.st.loc;refine X20 ?_;clear hK K
    have HFK:=hZ (spk_fork (u:=u') (v:=cv) HCM.out.1 (by have:=HN.out;omega) HUL.out HCM.out.2.2.1 HCM.out.2.2.2);obtain⟨z4,σ4,CJ,hz4,hI4,hY4,hT4,hr4,hu4⟩:=xoa (gs:=gs) (g:=g) (R':=rt1 root R) HI3.out.inv cm HCM.out.1 key z1 fin _ _ (HT3.out.1 _) (HT3.out.2 _) HFK.out.ok (fun y=>by rw[List.count_cons,List.count_cons,xef _ _ HZ1.out,xef _ _ HGF.out.2.2]<;>omega) (by have:=HRL.out.1;simp only[qr];omega) (by have:=HF.out;have:=HI3.out.used;have:=HI3.out.room;omega) (by simp[Tre.size]);have HCJ:=hZ CJ;clear CJ;go_upto_region 17 with fail;refine X19 ?_;refine Xgv ?_;refine X15 ?_;refine X8f ?_;refine xaa rfl _ (xa8 sc3 HL _ rfl _ rfl _ hO11 hc1) ?_;refine X50 ?_;intro K hK;refine X9s ?_;(with_reducible refine(HI3.out.st.goes' (fun D w vs vf h↦HCJ.out D w vs vf h)).mono ?_);rintro e w ⟨rfl,hs⟩
    have HI4:Hid (InS D w2 gs g σ (z4::rt1 root R) (σ.used+1+(256 - cm)) σ4 w):=hZ (HI3.out.next hs hI4 hY4 hr4 (by have:=HI3.out.used;have:=HCM.out.1;omega));have HT4:=hZ hT4;have HZ4:=hZ hz4;clear HL hs hI4 hY4 hr4 hu4 hT4 hz4;have HL:=HI4.out.st.loc;refine X2m ?_;clear hK K;go_upto_region 18 with fail;refine X12 ?_;refine xaa rfl _ (xa2 _ _ rfl _ _ _ rfl rfl rfl (by have:=HCM.out.1;omega)) ?_;refine X1a ?_;go_wp2_with fail
    go_loopw [12,15] (fun v d wr=>∃ (T:Tre)(z:Int)(σ5:Sb)(dd:Nat),v=.int .i64 z∧d=.int .i64 ((dd:Int) - 1)∧way.length≤dd∧dd≤cm∧z≠0∧InS D w2 gs g σ (z::rt1 root R) (σ.used+1+(256 - dd)) σ5 wr∧IsT σ5 z dd T∧SpK dd (.leaf k' u') key (some cv) T∧T.isIn=true) (fun _ d _=>(intOf d+1).toNat)
    case atStart=>exact⟨_,z4,σ4,cm,rfl,rfl,HCM.out.2.1,Nat.le_refl _,HZ4.out,HI4.out,HT4.out,HFK.out,by unfold jnK;split<;>rfl⟩
    case round=>as_aux_lemma =>
     clear HL;obtain⟨T,z,σ5,dd,rfl,hdv,hd1,hd2,hz,hin,htT,hsp,hTi⟩:=hrel;obtain⟨w,rfl⟩:=eW wr;have HI5:=hZ hin;have HT5:=hZ htT;have HSP:=hZ hsp;have HZ:=hZ hz;clear hin htT hsp hz;have HL:=HI5.out.st.loc;by_cases hlt:way.length<dd
     ·obtain⟨d,rfl⟩:∃ d,dd=d+1:=⟨dd - 1,by omega⟩
      have k19:decide ((way.length:Int)≤(d:Int))=true:=by simp;omega
      rw[show((d+1:Nat):Int) - 1=(d:Int) by omega] at hdv;subst hdv;have HCH:=hZ (xu4 (by have:=HCM.out.1;omega) (fun e he=>HCM.out.2.2.1 e (by omega)) HSP.out hTi);have hts5:=HSP.out.sz;obtain⟨z6,σ6,CJ,hz6,hI6,hY6,hT6,hr6,hu6⟩:=xoa (gs:=gs) (g:=g) (R':=rt1 root R) HI5.out.inv d (by have:=HCM.out.1;omega) key z 0 _ .nil HT5.out rfl HCH.out.ok (fun y=>by rw[List.count_cons,xef _ _ HZ.out];simp) (by have:=HRL.out.1;simp only[qr];omega) (by have:=HF.out;have:=HI5.out.used;have:=HI5.out.room;omega) (by rw[List.length_singleton] at hts5;simp only[Tre.size] at hts5 ⊢;omega);have HCJ:=hZ CJ;clear CJ hts5;go_upto_region 19 with fail;refine X12 ?_;refine X8e ?_;refine Xgw ?_;refine X6 ?_;refine Xgx ?_;refine X6 ?_;refine xaa rfl _ (xce (b:=true) _ _ rfl _ _ rfl rfl k19) ?_;refine X1z ?_
      go_upto_region 21 with fail;refine X19 ?_;refine Xgv ?_;refine X42 ?_;intro K hK;refine X9s ?_;(with_reducible refine(HI5.out.st.goes' (fun D w vs vf h↦HCJ.out D w vs vf h)).mono ?_);rintro e w ⟨rfl,hs⟩;have HI6:Hid (InS D w2 gs g σ (z6::rt1 root R) (σ.used+1+(256 - d)) σ6 w):=hZ (HI5.out.next hs hI6 hY6 hr6 (by have:=HI5.out.used;have:=HCM.out.1;omega));have HT6:=hZ hT6;have HZ6:=hZ hz6;clear HL hs hI6 hY6 hr6 hu6 hT6 hz6;have HL:=HI6.out.st.loc;refine X2m ?_;clear hK K;go_upto_region 20 with fail;refine X12 ?_;refine xaa rfl _ (xa2 _ _ rfl _ _ _ rfl rfl rfl (by have:=HCM.out.1;omega)) ?_;refine X1a ?_;go_wp2_with fail;go_roundw
      case rel=>exact⟨_,z6,σ6,d,rfl,rfl,by omega,by omega,HZ6.out,HI6.out,HT6.out,HCH.out,by unfold jnK;split<;>rfl⟩
      case measure=>simp[intOf]<;>omega
     ·have k19:decide ((way.length:Int)≤(dd:Int) - 1)=false:=by simp;omega
      have hdd:dd=way.length:=by omega
      subst hdd;subst hdv;go_upto_region 19 with fail;refine X12 ?_;refine X8e ?_;refine Xgw ?_;refine X6 ?_;refine Xgx ?_;refine X6 ?_;refine xaa rfl _ (xce (b:=false) _ _ rfl _ _ rfl rfl k19) ?_;refine X1z ?_;go_wp2_with fail;go_meet
      case rel=>exact⟨T,z,σ5,rfl,HZ.out,HI5.out,HT5.out,by rw[HE.out.1];exact HSP.out⟩
  case rest=>as_aux_lemma =>
   clear HL;obtain⟨T0,z0,σ2,rfl,hz0,hin0,htT0,hsp0⟩:=hcut;obtain⟨w,rfl⟩:=eW wc;have HI2:=hZ hin0;have HT2:=hZ htT0;have HSP2:=hZ hsp0;have HZ2:=hZ hz0;clear hin0 htT0 hsp0 hz0 HI1 HT1 HZ1;have HL:=HI2.out.st.loc;go_upto_region 22 with fail;refine Xt ?_;refine X8e ?_;refine Xgw ?_;refine X6 ?_;refine Xgx ?_;refine X6 ?_;refine xaa rfl _ (xa2 _ _ rfl _ _ _ rfl rfl rfl (by have:=HML.out;omega)) ?_;refine X1a ?_;go_wp2_with fail
   go_loopw [12,16,17,18,19] (fun v d _ _ _ wr=>∃ (T:Tre)(z:Int)(σ5:Sb)(dd:Nat),v=.int .i64 z∧d=.int .i64 ((dd:Int) - 1)∧dd≤way.length∧z≠0∧InS D w2 gs g σ (z::rt1 root R) (σ.used+1+(256 - dd)) σ5 wr∧IsT σ5 z dd T∧SpK dd (subF key 0 told dd) key (some cv) T∧((subF key 0 told dd).isIn=true→T.isIn=true)) (fun _ d _ _ _ _=>(intOf d+1).toNat)
   case atStart=>exact⟨T0,z0,σ2,way.length,rfl,rfl,Nat.le_refl _,HZ2.out,HI2.out,HT2.out,HSP2.out,fun e=>by rw[HMO.out] at e;cases e⟩
   case round=>as_aux_lemma =>
    clear HL HI2 HT2 HSP2 HZ2;obtain⟨T,z,σ5,dd,rfl,hdv,hd1,hz,hin,htT,hsp,hTi⟩:=hrel;obtain⟨w,rfl⟩:=eW wr;have HI5:=hZ hin;have HT5:=hZ htT;have HSP:=hZ hsp;have HZ:=hZ hz;clear hin htT hsp hz;have HL:=HI5.out.st.loc;by_cases hlt:0<dd
    ·obtain⟨d,rfl⟩:∃ d,dd=d+1:=⟨dd - 1,by omega⟩
     have k23:decide ((0:Int)≤(d:Int))=true:=by simp
     rw[show((d+1:Nat):Int) - 1=(d:Int) by omega] at hdv;subst hdv;obtain⟨zw,n5,v5,hat5,hG5,hX5,hX0⟩:=xrj HW.out HI5.out.stay d hd1;have HG5:=hZ hG5;have hsd:=HSO.out d (by omega);refine Xgy ?_;intro hsi s1 s2 s3 s4 s5 s6 s7;have HD256:=hZ s4;have hsp2:=HSP.out;rw[xdb,Nat.zero_add] at hsp2 hTi;have hup:=xn9 hsd.1 hsd.2.1 hsi hsp2
     have hjn:=xpy (key:=key) (d:=d) (other:=sdY key d (subF key 0 told d)) (spk_has hsp2) (by
      by_cases hn:sdY key d (subF key 0 told d)=.nil
      ·exact .inl (hTi (s6 hn))
      ·exact .inr fun e=>hn (xcf s3 e))
     rw[hjn] at hup;have HUP:=hZ hup;have HSZ:Hid (T.size+(sdY key d (subF key 0 told d)).size≤1000000):=hZ (by have q:=hsp2.sz;have:=HTS.out;have h8:=hsd.2.2;rw[List.length_singleton] at q;omega);generalize sdY key d (subF key 0 told d)=To at *;obtain⟨zo,hzo⟩:∃ zo,sdX key d n5=zo:=⟨_,rfl⟩;rw[hzo] at hX5 hX0;have HX5:=hZ hX5;have HX0:=hZ hX0;obtain⟨bb,hbb⟩:∃ bb,tb key.l d=bb:=⟨_,rfl⟩;have HBT:∀ u,Hid (Calls prog 150 #[key.a,iV d] u (oB u (.int .i64 ((bb.toNat:Nat):Int)))):=fun u=>hZ (by have:=xih u key d s4;rw[hbb] at this;exact this)
     have HZO:Hid (zo=if bb then n5.left else n5.right):=hZ (by rw[← hzo];unfold sdX;rw[hbb]);refine Xgz ?_;intro HAT;obtain⟨ad,hA5,_⟩:=HWR.out (by rw[xqx];omega);have HSV:Hid (v.v=.slice (some ad) way.length v.c):=hZ (by obtain⟨vA,vn,vc⟩:=v;have h1:=HVN.out;simp only at hA5 h1;rw[Sv.v,hA5,h1]);have HRD:∀ wx,Loc w2 (fun k=>Old w2 k∧¬ D k) [] wx→Hid (Rd wx (some ad) (iZ way)):=fun wx hx=>hZ (by have:=(HRDW wx hx).out;rw[hA5] at this;exact this)
     have HDL:Hid (d<way.length):=hZ hd1;clear hG5 hX5 hX0 hsd hsi s1 s2 s3 s4 s5 s6 s7 hsp2 hTi hup hjn hzo hbb hA5 hat5;go_upto_region 23 with fail;refine X12 ?_;refine xaa rfl _ (xce (b:=true) _ _ rfl _ _ rfl rfl k23) ?_;refine X1z ?_;go_upto_region 25 with fail;refine X12 ?_;refine X8e ?_;refine Xgw ?_;refine X15 ?_;refine xaa rfl _ (xaz sl71 (.tmp 94) _ rfl ad way.length v.c d .i64 HSV.out rfl HDL.out) ?_;refine X6 ?_;refine xaa rfl _ (xdh sc3 _ rfl ad (d*1) _ _ rfl (HRD _ HL).out HAT.out) ?_;refine X50 ?_;intro K hK;refine X7n ?_;(with_reducible refine(HI5.out.st.q (fun _ h↦xgd h zw n5 v5 true HG5.out)).mono ?_);rintro e w ⟨rfl,hb⟩;have HI6:=hZ (HI5.out.below hb);clear HL hb;have HL:=HI6.out.st.loc;refine X7l ?_;clear hK K;go_upto_region 26 with fail;refine X7v ?_;go_upto_region 27 with fail
     refine Xt ?_;refine Xgv ?_;refine X42 ?_;intro K hK;refine X5c ?_;(with_reducible refine((HBT _).out).mono ?_);rintro e w ⟨rfl,hb⟩;have HI7:=hZ (HI6.out.below hb);clear HL hb;have HL:=HI7.out.st.loc;refine X5k ?_;clear hK K;refine xaa rfl _ (xao (b:=bb) _ _ rfl _ _ rfl rfl (by cases bb<;>rfl)) ?_;refine X1z ?_
     go_upto_if 105 with fail
     go_cut [19] from 87 to 117 (fun y wx=>y=.int .i64 zo∧InS D w2 gs g σ (z::rt1 root R) (σ.used+1+(256 - (d+1))) σ5 wx)
     case first =>
      cases bb with
      | true =>
       go_upto_region 28 with fail;refine X7v ?_;go_wp2_with fail;go_meet
       case rel=>exact⟨by rw[HZO.out];rfl,HI7.out⟩
      | false =>
       go_wp2_with fail;go_meet
       case rel=>exact⟨by rw[HZO.out];rfl,HI7.out⟩
     case rest =>
      clear HL HI5 HI6 HI7;obtain⟨rfl,hin7⟩:=hcut;obtain⟨w,rfl⟩:=eW wc;have HI7:=hZ hin7;clear hin7;have HL:=HI7.out.st.loc;obtain⟨bo,hbo⟩:∃ bo,(zo==0)=bo:=⟨_,rfl⟩;have HBO:=hZ hbo;clear hbo;go_upto_region 29 with fail;refine X12 ?_;refine Xh0 ?_;refine X1z ?_
      go_upto_if 108 with fail
      go_cut [] from 87 to 117 (fun wx=>∃ σ8,InS D w2 gs g σ (rt1 zo (z::rt1 root R)) (σ.used+1+(256 - (d+1))) σ8 wx∧IsT σ8 z (d+1) T∧IsT σ8 zo (d+1) To)
      case first =>
       cases bo with
       | true =>
        have h0:zo=0:=by simpa using HBO.out
        go_wp2_with fail;go_meet
        case rel=>exact⟨σ5,by unfold rt1;rw[if_pos h0];exact HI7.out,HT5.out,HX5.out⟩
       | false =>
        have h0:zo≠0:=by simpa using HBO.out
        obtain⟨σ8,CH,hI8,hY8,hr8,hu8⟩:=xgk HI7.out.inv zo h0 _ _ HX5.out (by have:=HRL.out.1;simp only[qr];omega);have HCH:=hZ CH;clear CH;go_upto_region 30 with fail;refine X2j ?_;intro K hK;refine X9r ?_;(with_reducible refine(HI7.out.st.goes' (fun D w vs vf h↦HCH.out D w gs g vs vf h)).mono ?_);rintro e w ⟨rfl,hs⟩;refine X20 ?_;clear hK K;go_wp2_with fail;go_meet
        case rel=>exact⟨σ8,by unfold rt1;rw[if_neg h0];exact HI7.out.next hs hI8 hY8 hr8 (by rw[hu8];exact HI7.out.used),HT5.out.stay hY8,HX5.out.stay hY8⟩
      case rest =>
       clear HL HI7 HX5 HT5;obtain⟨σ8,hin8,ht8,hx8⟩:=hcut;obtain⟨w,rfl⟩:=eW wc;have HI8:=hZ hin8;clear hin8;have HL:=HI8.out.st.loc
       obtain⟨z9,σ9,CJ,hz9,hI9,hY9,hT9,hr9,hu9⟩:=xoa (gs:=gs) (g:=g) (R':=rt1 root R) HI8.out.inv d HD256.out key z zo _ _ ht8 hx8 HUP.out.ok (fun y=>by
        by_cases h0:zo=0
        ·subst h0;unfold rt1;rw[if_pos rfl,List.count_cons,xef _ _ HZ.out];simp
        ·unfold rt1;rw[if_neg h0,List.count_cons,List.count_cons,xef _ _ HZ.out,xef _ _ h0]<;>omega) (by have:=HRL.out.1;have:=xd5 zo (z::rt1 root R);simp only[qr] at this;omega) (by have:=HF.out;have:=HI8.out.used;have:=HI8.out.room;omega) HSZ.out
       have HCJ:=hZ CJ;clear CJ ht8 hx8;go_upto_region 31 with fail;refine X19 ?_;refine Xgv ?_;refine Xee ?_;intro K hK;refine X9s ?_;(with_reducible refine(HI8.out.st.goes' (fun D w vs vf h↦HCJ.out D w vs vf h)).mono ?_);rintro e w ⟨rfl,hs⟩;have HI9:Hid (InS D w2 gs g σ (z9::rt1 root R) (σ.used+1+(256 - d)) σ9 w):=hZ (HI8.out.next hs hI9 hY9 hr9 (by have:=HI8.out.used;have:=HD256.out;omega));have HT9:=hZ hT9;have HZ9:=hZ hz9;clear HL hs hI9 hY9 hr9 hu9 hT9 hz9;have HL:=HI9.out.st.loc;refine X2m ?_;clear hK K;go_upto_region 24 with fail;refine X12 ?_;refine xaa rfl _ (xa2 _ _ rfl _ _ _ rfl rfl rfl (by have:=HML.out;have:=HDL.out;omega)) ?_;refine X1a ?_;go_wp2_with fail;go_roundw
       case rel=>exact⟨_,z9,σ9,d,rfl,rfl,by omega,HZ9.out,HI9.out,HT9.out,HUP.out,fun _=>by unfold jnK;split<;>rfl⟩
       case measure=>simp[intOf]<;>omega
    ·have hdd:dd=0:=by omega
     subst hdd;subst hdv;have k23:decide ((0:Int)≤((0:Nat):Int) - 1)=false:=by decide
     go_upto_region 23 with fail;refine X12 ?_;refine xaa rfl _ (xce (b:=false) _ _ rfl _ _ rfl rfl k23) ?_;refine X1z ?_;by_cases h0:root=0
     ·have k32:(root==0)=true:=by simpa using h0
      have HRT0:Hid (rt1 root R=R):=hZ (by unfold rt1;rw[if_pos h0]);clear h0;go_upto_region 32 with fail;refine X12 ?_;refine xaa rfl _ (xa9 (b:=false) _ _ rfl _ _ rfl rfl k32) ?_;refine X1z ?_;go_upto_region 34 with fail;refine X3s ?_;go_wp2_with fail;go_ret2;have h5:=HI5.out;rw[HRT0.out] at h5;obtain⟨⟨D9,vs9,vf9,hP9,hS9⟩,hI9,hY9,hr9,hu9⟩:=h5;have hI0:=HI.out;rw[HRT0.out] at hI0;exact⟨T,z,D9,vs9,vf9,σ5,rfl,hP9,HS0.out.trans hS9,by unfold rt1;rw[if_neg HZ.out];exact hI9,hY9.keeps hI0,HT5.out,hr9,by omega,HSP.out⟩
     ·have k32:(root==0)=false:=by simpa using h0
      have HRT0:Hid (rt1 root R=root::R∧root≠0):=hZ ⟨by unfold rt1;rw[if_neg h0],h0⟩;clear h0;have hI0:=HI.out;rw[HRT0.out.1] at hI0
      have hin5:InS D w2 gs g σ (rt1 z (root::R)) (σ.used+257) σ5 w:=by
       have h5:=HI5.out;rw[HRT0.out.1] at h5;refine⟨h5.st,by unfold rt1;rw[if_neg HZ.out];exact h5.inv,h5.stay,h5.room,by have:=h5.used;omega⟩
      have HDR:=hZ (xk6 hin5 hI0 HRT0.out.2 HT5.out HRL.out.2);clear hin5 hI0;go_upto_region 32 with fail;refine X12 ?_;refine xaa rfl _ (xa9 (b:=true) _ _ rfl _ _ rfl rfl k32) ?_;refine X1z ?_;go_upto_region 33 with fail;refine X9u ?_;intro K hK;(with_reducible refine(HDR.out).mono ?_);rintro e w ⟨m9,σ9,rfl,hs9,hI9,hK9,hT9,hr9,hu9⟩;have HS9:=hZ hs9;have HQ9:=hZ (And.intro hI9 (And.intro hK9 (And.intro hT9 (And.intro hr9 hu9))));clear HL hs9 hI9 hK9 hT9 hr9 hu9;have HL:=HS9.out.loc;refine X20 ?_;clear hK K;go_upto_region 34 with fail;refine X3s ?_;go_wp2_with fail;go_ret2;obtain⟨D9,vs9,vf9,hP9,hS9⟩:=HS9.out;obtain⟨hI9,hK9,hT9,hr9,hu9⟩:=HQ9.out;exact⟨T,z,D9,vs9,vf9,σ9,rfl,hP9,HS0.out.trans hS9,hI9,hK9,hT9,hr9,hu9,HSP.out⟩
end
section
variable {P:Program}{ops:Array Oper}{Q:Exit→Act→World→Prop}{S:World→Prop}{F pl:List Nat}{g:Nat}
def wpC(P:Program)(ops:Array Oper)(Q:Exit→Act→World→Prop)(S:World→Prop)(F pl:List Nat)(g:Nat)(dn:List Nat)(a:Act)(w:World):List (Nat×Oper)→Prop
 | []=>True
 | (i,o)::r=>((Region.wanted o (yielded ops a.tmps)=true∧∀ K:Act→World→Prop,(∀ a' w',(F.contains i=false→S w')→wpT P ops Q S F pl g (i::dn) [] a' w'→K a' w')→o.wp P a w K Q) ∨
   (Region.wanted o (yielded ops a.tmps)=false∧S w∧wpT P ops Q S F pl g (i::dn) [] (a.put o.dst undef) w))∧wpC P ops Q S F pl g dn a w r
theorem wpC_at{dn:List Nat}{a:Act}{w:World}:∀ {r:List (Nat×Oper)},wpC P ops Q S F pl g dn a w r→∀ x∈r,(Region.wanted x.2 (yielded ops a.tmps)=true ∧
  ∀ K:Act→World→Prop,(∀ a' w',(F.contains x.1=false→S w')→wpT P ops Q S F pl g (x.1::dn) [] a' w'→K a' w')→x.2.wp P a w K Q)∨(Region.wanted x.2 (yielded ops a.tmps)=false∧S w∧wpT P ops Q S F pl g (x.1::dn) [] (a.put x.2.dst undef) w)
 | [],_,x,hx=>by simp at hx
 | (i,o)::r,h,x,hx=>by
  rcases List.mem_cons.1 hx with rfl | hx
  ·exact h.1
  ·exact wpC_at h.2 x hx
theorem rg_forkc(ids:List Nat){l:List Oper}{dn:List Nat}{a:Act}{w:World}(hp:(Region.ready .any l.toArray (listed l.toArray.size dn)==ids&&!ids.isEmpty&&ids.all (· < l.length))=true)
  (h:wpC P l.toArray Q S F pl g dn a w (pick l ids)):wpT P l.toArray Q S F pl (g+1) dn [] a w:=by
 intro _ _ hQ;simp only[Bool.and_eq_true,beq_iff_eq] at hp;obtain⟨⟨h1,h2⟩,h3⟩:=hp;rw[show([]:List (Nat×Oper)).length+(g+1)=g+1 by simp];refine⟨fun h0=>(by rw[h1] at h0;subst h0;simp at h2),fun j hj=>?_⟩;rw[h1] at hj;have hx:(j,l.getD j default)∈pick l ids:=List.mem_map.2 ⟨j,hj,rfl⟩;have hi:=xjj h3 _ hx;rcases wpC_at h _ hx with⟨hw,hh⟩ | ⟨hw,hS,hh⟩
 ·unfold wpOp
  simp only at hw hi hh;simp only[hi,hw,if_true];exact .inl (hh _ fun a' w' g1 g2=>⟨g1,(by have h5:=g2 (fun x hx=>by simp at hx) rfl hQ;simp only[qs,Nat.zero_add] at h5;exact h5)⟩)
 ·unfold wpOp
  simp only at hw hi hh;simp only[hi,hw,Bool.false_eq_true,if_false];exact⟨fun _=>hS,(by have h5:=hh (fun x hx=>by simp at hx) rfl hQ;simp only[qs,Nat.zero_add] at h5;exact h5)⟩
end
end Go.Proofs.YtkjjdgnkelchfaaGreat
