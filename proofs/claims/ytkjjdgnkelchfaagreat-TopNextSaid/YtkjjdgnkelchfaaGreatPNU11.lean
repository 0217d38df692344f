import Derived.Test.YtkjjdgnkelchfaaGreatPNU10
set_option linter.unusedSimpArgs false
set_option linter.unusedVariables false
set_option maxRecDepth 100000
set_option maxHeartbeats 16000000
namespace Go.Proofs.YtkjjdgnkelchfaaGreat
open Go Go.RowKit Go.Proofs.Tryz
section
variable {σ σ':Sb}{R T:List Int}
theorem Sb.Inv.refs_out(h:σ.Inv R T){z:Int}(hz:z≠0)(hn : ¬ σ.In z):σ.refs z=0:=by
 refine sum_zero _ _ fun e he=>?_
 obtain⟨i,hi,rfl⟩:=List.getElem_of_mem he;unfold En.pts;rw[if_neg (fun e=>by rcases h.left i hi with h1 | h1;exact hz (e▸h1);exact hn (e▸h1)),if_neg (fun e=>by rcases h.right i hi with h1 | h1;exact hz (e▸h1);exact hn (e▸h1))]
theorem Sb.Inv.taken(h:σ.Inv R T)(e:En):∃ i0:Nat,σ.next=i0+1∧(σ.take e).room=σ.room∧(σ.take e).used=σ.used+1∧σ.slots.length≤(σ.take e).slots.length∧(∃ h0:i0<(σ.take e).slots.length,(σ.take e).slots[i0]=e) ∧
  (∀ (k:Nat) (hk:k<(σ.take e).slots.length),k≠i0→∃ h1:k<σ.slots.length,(σ.take e).slots[k]=σ.slots[k])∧(∀ (k:Nat)(hk:k<σ.slots.length),k=i0→σ.slots[k].count=0) ∧
  (∀ z:Int,z≠0→(σ.take e).refs z=σ.refs z+e.pts z)∧(e.count=1→(((σ.take e).slots.map En.occ).sum=(σ.slots.map En.occ).sum+1))∧R.count ((i0:Int)+1)=0∧T.count ((i0:Int)+1)=0∧σ.refs ((i0:Int)+1)=0 ∧
  (σ.take e).free.Nodup∧(∀ n∈(σ.take e).free,n∈σ.free∧n≠i0+1):=by
 cases hl:σ.free.getLast? with
 | none =>
  have hf:σ.free = []:=List.getLast?_eq_none_iff.1 hl;have ht:σ.take e=σ.takeN e:=by unfold Sb.take;rw[hl]
  have hx:σ.next=σ.slots.length+1:=by unfold Sb.next;rw[hl]
  have hno : ¬ σ.In ((σ.slots.length:Int)+1):=fun⟨i,hi,he⟩=>by omega
  refine⟨σ.slots.length,hx,by rw[ht];rfl,by rw[ht];rfl,by rw[ht];simp[Sb.takeN],⟨by rw[ht];simp[Sb.takeN],by simp[ht,Sb.takeN]⟩,fun k hk hne=>?_,fun k hk he=>by omega,fun z hz=>?_,fun he=>?_,?_,?_,h.refs_out (by omega) hno,by rw[ht];exact h.nice.nd,fun n hn=>?_⟩
  ·have hk2:k<σ.slots.length:=by rw[ht] at hk;simp[Sb.takeN] at hk;omega
   exact⟨hk2,by simp[ht,Sb.takeN,List.getElem_append_left hk2]⟩
  ·rw[ht];simp[Sb.refs,Sb.takeN]
  ·rw[ht];simp[Sb.takeN,En.occ,he]
  ·exact List.count_eq_zero.2 fun hm=>hno (h.root _ hm)
  ·exact List.count_eq_zero.2 fun hm=>hno (h.todo _ hm)
  ·rw[ht] at hn
   have hn:n∈σ.free:=hn;rw[hf] at hn;cases hn
 | some k0 =>
  obtain⟨fl,hfl⟩:∃ fl,σ.free=fl++[k0]:=List.getLast?_eq_some_iff.1 hl;have hk0:=h.ok.fr k0 (by rw[hfl];simp);obtain⟨i0,rfl⟩:∃ i0,k0=i0+1:=⟨k0 - 1,by omega⟩;have hi0:i0<σ.slots.length:=by omega
  have hc0:σ.slots[i0].count=0:=by have:=h.nice.z (i0+1) (by rw[hfl];simp) (by simpa using hi0);simpa using this
  have hn0:=h.free i0 hi0 hc0;have ht:σ.take e=σ.takeF i0 e:=by unfold Sb.take;rw[hl];rfl
  have hx:σ.next=i0+1:=by unfold Sb.next;rw[hl]
  have hcz:=h.count i0 hi0;rw[hc0] at hcz;have hnd:=h.nice.nd;rw[hfl,List.nodup_append] at hnd;refine⟨i0,hx,by rw[ht];rfl,by rw[ht];rfl,by rw[ht];simp[Sb.takeF],⟨by rw[ht];simpa[Sb.takeF] using hi0,by simp[ht,Sb.takeF]⟩,fun k hk hne=>?_,fun k hk he=>by subst he;exact hc0,fun z hz=>?_,fun he=>?_,by omega,by omega,by omega,?_,fun n hn=>?_⟩
  ·have hk2:k<σ.slots.length:=by rw[ht] at hk;simpa[Sb.takeF] using hk
   refine⟨hk2,?_⟩;simp only[ht,Sb.takeF,List.getElem_set];rw[if_neg (fun e=>hne e.symm)]
  ·rw[ht]
   have h1:=xet (fun e=>En.pts e z) σ.slots i0 e hi0
   have h2:En.pts σ.slots[i0] z=0:=by
    unfold En.pts;rw[hn0];show(if (0:Int)=z then 1 else 0)+(if (0:Int)=z then 1 else 0)=0;rw[if_neg (fun e=>hz e.symm)]
   have h3:(σ.takeF i0 e).refs z+En.pts σ.slots[i0] z=σ.refs z+e.pts z:=h1;omega
  ·rw[ht]
   have h1:=xet En.occ σ.slots i0 e hi0;have h2:En.occ σ.slots[i0]=0:=by simp[En.occ,hc0]
   have h3:En.occ e=1:=by simp[En.occ,he]
   show((σ.slots.set i0 e).map En.occ).sum=_;omega
  ·rw[ht]
   show σ.free.dropLast.Nodup;rw[hfl];simpa using hnd.1
  ·rw[ht] at hn
   have hn:n∈σ.free.dropLast:=hn;rw[hfl] at hn;simp only[List.dropLast_concat] at hn;refine⟨by rw[hfl];simp[hn],fun e=>?_⟩;exact hnd.2.2 n hn (i0+1) (by simp) e
theorem Sb.Inv.take(h:σ.Inv R T)(e:En)(hok:(σ.take e).Ok)(T':List Int)(hc:e.count=1)(hh:e.nd.held=1)(hl:e.nd.left=0∨σ.In e.nd.left)(hr:e.nd.right=0∨σ.In e.nd.right)(hT:∀ z,T.count z=T'.count z+if z=0 then 0 else e.pts z) :
  (σ.take e).Inv ((σ.next:Int)::R) T'∧σ.Keeps R (σ.take e):=by
 obtain⟨i0,hx,hrm,hus,hlen,⟨hi0,hat0⟩,hat,hz0,hrefs,hocc,hR0,hT0,hF0,hnd,hfr⟩:=h.taken e;have hin:∀ z,σ.In z→(σ.take e).In z:=fun z ⟨i,hi,he⟩=>⟨i,by omega,he⟩
 have hxi:(σ.next:Int)=(i0:Int)+1:=by rw[hx];omega
 refine⟨⟨hok,⟨hnd,fun n hn hlt=>?_⟩,fun k hk=>?_,fun k hk=>?_,fun k hk=>?_,?_,fun z hz=>?_,fun z hz=>?_,fun k hk=>?_,fun k hk=>?_⟩,fun k hk hl=>?_⟩
 ·obtain⟨h1,h2⟩:=hfr n hn
  have h3:=h.ok.fr n h1;obtain⟨h4,h5⟩:=hat (n - 1) hlt (by omega);rw[h5];exact h.nice.z n h1 h4
 ·rw[hxi,List.count_cons,hrefs _ (by omega)]
  have t1:=hT ((k:Int)+1);rw[if_neg (show ¬ (k:Int)+1=0 by omega)] at t1;by_cases hk0:k=i0
  ·subst hk0
   rw[hat0,hc];simp only[beq_self_eq_true,if_true];omega
  ·obtain⟨h1,h2⟩:=hat k hk hk0
   rw[h2,if_neg (by simp;omega)];have:=h.count k h1;omega
 ·rw[hxi,List.count_cons]
  by_cases hk0:k=i0
  ·subst hk0
   rw[hat0,hh];simp only[beq_self_eq_true,if_true];omega
  ·obtain⟨h1,h2⟩:=hat k hk hk0
   rw[h2,if_neg (by simp;omega)];have:=h.held k h1;omega
 ·by_cases hk0:k=i0
  ·subst hk0
   rw[hat0,hc];intro e;omega
  ·obtain⟨h1,h2⟩:=hat k hk hk0
   rw[h2];exact h.free k h1
 ·rw[hus,hocc hc,h.used]
 ·rcases List.mem_cons.1 hz with rfl | hz
  ·exact⟨i0,hi0,hxi⟩
  ·exact hin z (h.root z hz)
 ·refine hin z (h.todo z (List.count_pos_iff.1 ?_))
  have:=List.count_pos_iff.2 hz;have:=hT z;omega
 ·by_cases hk0:k=i0
  ·subst hk0
   rw[hat0];exact hl.imp_right (hin _)
  ·obtain⟨h1,h2⟩:=hat k hk hk0
   rw[h2];exact(h.left k h1).imp_right (hin _)
 ·by_cases hk0:k=i0
  ·subst hk0
   rw[hat0];exact hr.imp_right (hin _)
  ·obtain⟨h1,h2⟩:=hat k hk hk0
   rw[h2];exact(h.right k h1).imp_right (hin _)
 ·have hne:k≠i0:=fun e=>by
   subst e;have h1:=(Sb.Keeps.refl σ R).busy (fun i hi=>⟨h.left i hi,h.right i hi⟩) hl;omega
  obtain⟨h1,h2⟩:=hat k (by omega) hne;exact⟨by omega,by rw[h2],by rw[h2]⟩
theorem Sb.Inv.hold(h:σ.Inv R T)(i:Nat)(hi:i<σ.slots.length)(hc:σ.slots[i].count≠0):(σ.hold i hi).Inv (((i:Int)+1)::R) T∧σ.Keeps R (σ.hold i hi):=by
 have hr:∀ z,(σ.hold i hi).refs z=σ.refs z:=fun z=>Sb.refs_same i hi (e:=_) (h1:=by exact rfl) (h2:=by exact rfl) z
 have hlen:(σ.hold i hi).slots.length=σ.slots.length:=xb7 _ _ _;have hat:∀ (j:Nat) (hj:j<(σ.hold i hi).slots.length),(σ.hold i hi).slots[j]=if i=j then ⟨{ σ.slots[i].nd with held:=σ.slots[i].nd.held+1 },σ.slots[i].count+1,σ.slots[i].val⟩ else σ.slots[j]'(by rw[hlen] at hj;exact hj):=fun j hj=>Sb.put_at i j _ hj
 have hin:∀ z,(σ.hold i hi).In z↔σ.In z:=fun z=>by unfold Sb.In;rw[hlen]
 have hpos:0≤σ.slots[i].count:=by have:=h.count i hi;omega
 refine⟨⟨Sb.put_ok h.ok i _,⟨h.nice.nd,fun n hn hlt=>?_⟩,fun j hj=>?_,fun j hj=>?_,fun j hj=>?_,?_,fun z hz=>(hin z).2 ?_,fun z hz=>(hin z).2 (h.todo z hz),fun j hj=>?_,fun j hj=>?_⟩,fun j hj hl=>⟨by rw[hlen];exact hj,?_⟩⟩
 ·rw[hat]
  rw[hlen] at hlt
  split
  ·next e=>have:=h.nice.z n hn hlt;subst e;exact absurd this hc
  ·exact h.nice.z n hn hlt
 ·rw[hat,hr,List.count_cons]
  rw[hlen] at hj;have h1:=h.count j hj
  split
  ·next e =>
   subst e;simp only[beq_self_eq_true,if_true];omega
  ·next e =>
   rw[if_neg (by simp;omega)];omega
 ·rw[hat,List.count_cons]
  rw[hlen] at hj;have h1:=h.held j hj
  split
  ·next e =>
   subst e;simp only[beq_self_eq_true,if_true];omega
  ·next e =>
   rw[if_neg (by simp;omega)];omega
 ·rw[hat]
  rw[hlen] at hj
  split
  ·next e =>
   intro e0;have e0:σ.slots[i].count+1=0:=e0;omega
  ·exact h.free j hj
 ·have h1:=xet En.occ σ.slots i ⟨{ σ.slots[i].nd with held:=σ.slots[i].nd.held+1 },σ.slots[i].count+1,σ.slots[i].val⟩ hi
  have h2:=h.used;have e1:En.occ ⟨{ σ.slots[i].nd with held:=σ.slots[i].nd.held+1 },σ.slots[i].count+1,σ.slots[i].val⟩=1:=if_neg (show ¬ σ.slots[i].count+1=0 by omega);have e2:En.occ σ.slots[i]=1:=if_neg hc;show σ.used=((σ.slots.set i _).map En.occ).sum;omega
 ·rcases List.mem_cons.1 hz with rfl | hz
  ·exact⟨i,hi,rfl⟩
  ·exact h.root z hz
 ·rw[hat,hin]
  rw[hlen] at hj
  split
  ·next e=>subst e;exact h.left i hi
  ·exact h.left j hj
 ·rw[hat,hin]
  rw[hlen] at hj
  split
  ·next e=>subst e;exact h.right i hi
  ·exact h.right j hj
 ·rw[hat]
  split
  ·next e=>subst e;exact⟨rfl,rfl⟩
  ·exact⟨rfl,rfl⟩
theorem Sb.Keeps.trans{a b c:Sb}{R R2:List Int}(h1:a.Keeps R b)(h2:b.Keeps R2 c)(hl:∀ (i:Nat)(h:i<a.slots.length),a.Live R ((i:Int)+1)→b.Live R2 ((i:Int)+1)):a.Keeps R c:=fun i hi hv=>by
 obtain⟨p1,p2,p3⟩:=h1 i hi hv;obtain⟨q1,q2,q3⟩:=h2 i p1 (hl i hi hv);exact⟨q1,by rw[q2,p2],by rw[q3,p3]⟩
theorem Sb.Keeps.live{a b:Sb}{R R2:List Int}(h:a.Keeps R b)(hR:∀ z∈R,z∈R2){z:Int}(hl:a.Live R z):b.Live R2 z:=by
 induction hl with
 | root z hz=>exact .root z (hR z hz)
 | left i hi hl h0 ih =>
  obtain⟨p1,p2,_⟩:=h i hi hl;have e:b.slots[i].nd.left=a.slots[i].nd.left:=by rw[p2]
  rw[← e] at h0 ⊢;exact .left i p1 ih h0
 | right i hi hl h0 ih =>
  obtain⟨p1,p2,_⟩:=h i hi hl;have e:b.slots[i].nd.right=a.slots[i].nd.right:=by rw[p2]
  rw[← e] at h0 ⊢;exact .right i p1 ih h0
theorem Sb.Keeps.less{a b:Sb}{R R2:List Int}(h:a.Keeps R b)(hR:∀ z∈R2,z∈R):a.Keeps R2 b:=fun i hi hl=>h i hi ((Sb.Keeps.refl a R2).live hR hl)
end
inductive Tre where
 | nil
 | leaf (k:D32) (v:LU)
 | inner (l r:Tre)
namespace Tre
def dg:Tre→D32
 | nil=>tagE
 | leaf k v=>tagL k (tagV v)
 | inner l r=>tagI l.dg r.dg
def size:Tre→Nat
 | nil=>0
 | leaf _ _=>1
 | inner l r=>l.size+r.size
def keys:Tre→List D32
 | nil=>[]
 | leaf k _=>[k]
 | inner l r=>l.keys++r.keys
def knd:Tre→Nat
 | nil=>0
 | leaf _ _=>1
 | inner _ _=>2
def isIn:Tre→Bool
 | inner _ _=>true
 | _=>false
def Ok:Nat→Tre→Prop
 | _,nil=>True
 | d,leaf _ v=>v.length≤1024∧d≤256
 | d,inner l r=>d<256∧l.Ok (d+1)∧r.Ok (d+1)∧(∀ k∈l.keys,tb k.l d=false)∧(∀ k∈r.keys,tb k.l d=true)∧(∀ k∈l.keys++r.keys,∀ k'∈l.keys++r.keys,∀ e,e<d→tb k.l e=tb k'.l e) ∧
   (l.keys = []→r.isIn=true∧l=nil)∧(r.keys = []→l.isIn=true∧r=nil)
theorem Ok.ne{d:Nat}:∀ {t:Tre},t.Ok d→t.isIn=true→t.keys≠[]
 | nil,_,h=>by cases h
 | leaf _ _,_,h=>by cases h
 | inner l r,h,_=>fun e=>by
  simp only[keys,List.append_eq_nil_iff] at e;obtain⟨_,h1,h2,_,_,_,h3,h4⟩:=h;obtain⟨h5,_⟩:=h3 e.1;exact(Ok.ne h2 h5) e.2
end Tre
def IsT(σ:Sb):Int→Nat→Tre→Prop
 | z,_,.nil=>z=0
 | z,_,.leaf k v=>∃ (i:Nat)(hi:i<σ.slots.length),z=(i:Int)+1∧σ.slots[i].count≠0∧σ.slots[i].val=v∧σ.slots[i].nd.kind=1∧σ.slots[i].nd.key=k∧σ.slots[i].nd.dig=tagL k (tagV v)∧σ.slots[i].nd.size=1∧σ.slots[i].nd.left=0∧σ.slots[i].nd.right=0∧v.length=σ.slots[i].nd.vs.n∧σ.slots[i].nd.hash=tagV v
 | z,d,.inner l r=>∃ (i:Nat)(hi:i<σ.slots.length),z=(i:Int)+1∧σ.slots[i].count≠0∧σ.slots[i].nd.kind=2∧σ.slots[i].nd.depth=(d:Int)∧σ.slots[i].nd.dig=tagI l.dg r.dg∧σ.slots[i].nd.size=((l.size+r.size:Nat):Int) ∧
   (∀ k∈l.keys++r.keys,∀ e,e<d→tb σ.slots[i].nd.key.l e=tb k.l e)∧IsT σ σ.slots[i].nd.left (d+1) l∧IsT σ σ.slots[i].nd.right (d+1) r
section
variable {σ σ':Sb}{R R' T T':List Int}
theorem Sb.Inv.live_busy(h:σ.Inv R T){i:Nat}(hi:i<σ.slots.length)(hl:σ.Live R ((i:Int)+1)):σ.slots[i].count≠0:=by
 have h1:=(Sb.Keeps.refl σ R).busy (fun i hi=>⟨h.left i hi,h.right i hi⟩) hl;have h2:=h.count i hi;omega
theorem IsT.keep(hK:σ.Keeps R σ')(hI:σ'.Inv R' T')(hR:∀ z∈R,z∈R'):∀ {t:Tre} {z:Int} {d:Nat},IsT σ z d t→(z=0∨σ.Live R z)→IsT σ' z d t
 | .nil,z,d,h,_=>h
 | .leaf k v,z,d,h,hl=>by
  obtain⟨i,hi,rfl,h1,h2,h3,h4,h5,h6,h7,h8,h9⟩:=h;have hl:σ.Live R ((i:Int)+1):=hl.resolve_left (by omega);obtain⟨p1,p2,p3⟩:=hK i hi hl;refine⟨i,p1,rfl,hI.live_busy p1 (hK.live hR hl),by rw[p3,h2],?_,?_,?_,?_,?_,?_,?_,?_⟩<;>(rw[p2];first | assumption | exact h9.1 | exact h9.2)
 | .inner l r,z,d,h,hl=>by
  obtain⟨i,hi,rfl,h1,h2,h3,h4,h5,h6,h7,h8⟩:=h;have hl:σ.Live R ((i:Int)+1):=hl.resolve_left (by omega);obtain⟨p1,p2,p3⟩:=hK i hi hl;have el:σ'.slots[i].nd.left=σ.slots[i].nd.left:=by rw[p2]
  have er:σ'.slots[i].nd.right=σ.slots[i].nd.right:=by rw[p2]
  have hll:σ.slots[i].nd.left=0∨σ.Live R σ.slots[i].nd.left:=by
   by_cases h0:σ.slots[i].nd.left=0
   ·exact .inl h0
   ·exact .inr (.left i hi hl h0)
  have hlr:σ.slots[i].nd.right=0∨σ.Live R σ.slots[i].nd.right:=by
   by_cases h0:σ.slots[i].nd.right=0
   ·exact .inl h0
   ·exact .inr (.right i hi hl h0)
  refine⟨i,p1,rfl,hI.live_busy p1 (hK.live hR hl),?_,?_,?_,?_,?_,?_,?_⟩
  ·rw[p2];exact h2
  ·rw[p2];exact h3
  ·rw[p2];exact h4
  ·rw[p2];exact h5
  ·rw[p2];exact h6
  ·rw[el];exact IsT.keep hK hI hR h7 hll
  ·rw[er];exact IsT.keep hK hI hR h8 hlr
theorem IsT.zero{d:Nat}{t:Tre}(h:IsT σ 0 d t):t=.nil:=by
 cases t with
 | nil=>rfl
 | leaf k v=>obtain⟨i,_,e,_⟩:=h;omega
 | inner l r=>obtain⟨i,_,e,_⟩:=h;omega
theorem IsT.nz{z:Int}{d:Nat}{t:Tre}(h:IsT σ z d t)(hz:z≠0):∃ (i:Nat)(hi:i<σ.slots.length),z=(i:Int)+1∧σ.slots[i].count≠0∧σ.slots[i].nd.dig=t.dg∧σ.slots[i].nd.size=(t.size:Int)∧(σ.slots[i].nd.kind=if t.isIn then 2 else 1)∧(t.isIn=true→σ.slots[i].nd.depth=(d:Int))∧(∀ k∈t.keys,∀ e,e<d→tb σ.slots[i].nd.key.l e=tb k.l e):=by
 cases t with
 | nil=>exact absurd h hz
 | leaf k v =>
  obtain⟨i,hi,e,h1,h2,h3,h4,h5,h6,h7,h8,h9⟩:=h;refine⟨i,hi,e,h1,h5,h6,by rw[h3];rfl,(fun e=>Bool.noConfusion e),fun k' hk' e _=>?_⟩;simp only[Tre.keys,List.mem_singleton] at hk';rw[h4,hk']
 | inner l r =>
  obtain⟨i,hi,e,h1,h2,h3,h4,h5,h6,h7,h8⟩:=h;exact⟨i,hi,e,h1,h4,h5,by rw[h2];rfl,fun _=>h3,h6⟩
theorem IsT.got{z:Int}{d:Nat}{t:Tre}(h:IsT σ z d t):∃ (n:Nd)(val:LU)(ok:Bool),Got σ z n val ok∧(ok=true↔z≠0)∧n.kind=t.knd:=by
 cases t with
 | nil =>
  have h:z=0:=h;subst h;exact⟨Nd.z,[],false,.inr ⟨rfl,by omega,rfl,rfl⟩,by simp,rfl⟩
 | leaf k v =>
  obtain⟨i,hi,e,h1,h2,h3,h4,h5,h6,h7,h8,h9⟩:=h;exact⟨_,_,true,.inl ⟨rfl,i,e,hi,rfl,rfl,h1⟩,by simp;omega,h3⟩
 | inner l r =>
  obtain⟨i,hi,e,h1,h2,h3,h4,h5,h6,h7,h8⟩:=h;exact⟨_,_,true,.inl ⟨rfl,i,e,hi,rfl,rfl,h1⟩,by simp;omega,h2⟩
end
def xb1(l r:Tre):Tre:=if l.keys = []∧r.isIn=false then r else if r.keys = []∧l.isIn=false then l else .inner l r
def xak:Nat→Nat→List (D32×LU)→Tre
 | _,_,[]=>.nil
 | _,_,[x]=>.leaf x.1 x.2
 | 0,_,_=>.nil
 | n+1,d,x::y::l =>
  xb1 (xak n (d+1) ((x::y::l).takeWhile fun p=>!tb p.1.l d)) (xak n (d+1) ((x::y::l).dropWhile fun p=>!tb p.1.l d))
end Go.Proofs.YtkjjdgnkelchfaaGreat
namespace Go.Proofs.YtkjjdgnkelchfaaGreat
abbrev Bts:=LU
end Go.Proofs.YtkjjdgnkelchfaaGreat
namespace Go.Proofs.YtkjjdgnkelchfaaGreat
open Go Go.RowKit Go.Proofs.Tryz
theorem tb_be(n e:Nat)(hn:n<2^256)(he:e<256):tb (be 32 n) e=n.testBit (255 - e):=by
 rw[xdw _ (xca _ _) e he,nOf_key hn]
theorem xpe(p:Bts)(hp:p.length=32)(d e:Nat)(hd:d<256)(he:e<256):tb (xhi p d) e=if e=d then !tb p e else tb p e:=by
 unfold xhi;rw[if_pos ⟨by omega,by omega⟩,Int.toNat_natCast,tb_be _ _ (xom _ _ (xeh hp) hd) he,xlv _ _ _ he hd,← xdw p hp e he]
section
variable {σ σ':Sb}{R R' T T':List Int}
def Sb.Stays(σ σ':Sb):Prop:=∀ (i:Nat)(h:i<σ.slots.length),σ.slots[i].count≠0→∃ h':i<σ'.slots.length,σ'.slots[i].nd={ σ.slots[i].nd with held:=σ'.slots[i].nd.held }∧σ'.slots[i].val=σ.slots[i].val∧σ'.slots[i].count≠0
theorem Sb.Stays.keeps(h:σ.Stays σ')(hI:σ.Inv R T):σ.Keeps R σ':=fun i hi hl=>by
 obtain⟨p1,p2,p3,_⟩:=h i hi (hI.live_busy hi hl);exact⟨p1,p2,p3⟩
theorem Sb.Stays.trans{a b c:Sb}(h1:a.Stays b)(h2:b.Stays c):a.Stays c:=fun i hi hc=>by
 obtain⟨p1,p2,p3,p4⟩:=h1 i hi hc;obtain⟨q1,q2,q3,q4⟩:=h2 i p1 p4;exact⟨q1,by rw[q2,p2],by rw[q3,p3],q4⟩
theorem Sb.Stays.by_(i:Nat)(b:Int):σ.Stays (σ.by i b):=fun j hj hc=>by
 refine⟨by simpa[Sb.by] using hj,?_⟩;simp only[Sb.by,List.getElem_modify]
 split
 ·exact⟨rfl,rfl,hc⟩
 ·exact⟨rfl,rfl,hc⟩
theorem Sb.Stays.take(hN:σ.Nice)(e:En):σ.Stays (σ.take e):=fun j hj hc=>by
 obtain⟨p,q⟩:=xho hN j hj hc e;exact⟨p,by rw[q],by rw[q],by rw[q];exact hc⟩
theorem IsT.stay(hS:σ.Stays σ'):∀ {t:Tre} {z:Int} {d:Nat},IsT σ z d t→IsT σ' z d t
 | .nil,z,d,h=>h
 | .leaf k v,z,d,h=>by
  obtain⟨i,hi,rfl,h1,h2,h3,h4,h5,h6,h7,h8,h9⟩:=h;obtain⟨p1,p2,p3,p4⟩:=hS i hi h1;refine⟨i,p1,rfl,p4,by rw[p3,h2],?_,?_,?_,?_,?_,?_,?_,?_⟩<;>(rw[p2];first | assumption | exact h9.1 | exact h9.2)
 | .inner l r,z,d,h=>by
  obtain⟨i,hi,rfl,h1,h2,h3,h4,h5,h6,h7,h8⟩:=h;obtain⟨p1,p2,p3,p4⟩:=hS i hi h1;have el:σ'.slots[i].nd.left=σ.slots[i].nd.left:=by rw[p2]
  have er:σ'.slots[i].nd.right=σ.slots[i].nd.right:=by rw[p2]
  refine⟨i,p1,rfl,p4,?_,?_,?_,?_,?_,?_,?_⟩
  ·rw[p2];exact h2
  ·rw[p2];exact h3
  ·rw[p2];exact h4
  ·rw[p2];exact h5
  ·rw[p2];exact h6
  ·rw[el];exact IsT.stay hS h7
  ·rw[er];exact IsT.stay hS h8
theorem Sb.Stays.hold(i:Nat)(hi:i<σ.slots.length)(h0:0≤σ.slots[i].count):σ.Stays (σ.hold i hi):=fun j hj hc=>by
 refine⟨by simpa[Sb.hold,Sb.put] using hj,?_⟩;unfold Sb.hold;rw[Sb.put_at]
 split
 ·next e=>subst e;exact⟨rfl,rfl,by show σ.slots[i].count+1≠0;omega⟩
 ·exact⟨rfl,rfl,hc⟩
theorem Sb.by_free(i:Nat)(b:Int):(σ.by i b).free=σ.free:=rfl
theorem Sb.by_len(i:Nat)(b:Int):(σ.by i b).slots.length=σ.slots.length:=by simp[Sb.by]
theorem Sb.by_next(i:Nat)(b:Int):(σ.by i b).next=σ.next:=by
 unfold Sb.next;rw[Sb.by_free,Sb.by_len]
theorem Sb.take_by(hN:σ.Nice)(i:Nat)(hi:i<σ.slots.length)(hc:σ.slots[i].count≠0)(e:En)(b:Int):(σ.take e).by i b=(σ.by i b).take e:=by
 unfold Sb.take;rw[Sb.by_free]
 cases hl:σ.free.getLast? with
 | none =>
  simp only[Sb.takeN,Sb.by];congr 1;apply List.ext_getElem (by simp);intro k h1 h2;simp only[List.getElem_modify,List.getElem_append,List.length_modify];by_cases hk:k<σ.slots.length
  ·simp[hk]
  ·have hne:i≠k:=by omega
   simp[hk,hne]
 | some k0 =>
  simp only[Sb.takeF,Sb.by];congr 1;apply List.ext_getElem (by simp);intro k h1 h2;simp only[List.getElem_modify,List.getElem_set];by_cases hk:k0 - 1=k
  ·have hne:i≠k:=fun e=>by
    subst e;subst hk;exact hc (hN.z k0 (List.mem_of_getLast? hl) hi)
   simp[hk,hne]
  ·simp[hk]
theorem Sb.take_ok(h:σ.Ok)(hroom:σ.used<σ.room)(e:En):(σ.take e).Ok:=by
 unfold Sb.take
 cases hl:σ.free.getLast? with
 | none=>exact Sb.takeN_ok h e (List.getLast?_eq_none_iff.1 hl) hroom
 | some k =>
  refine Sb.takeF_ok h _ e ?_;have:=List.mem_of_getLast? hl;exact List.length_pos_of_mem this
theorem Sb.Inv.give(h:σ.Inv R T)(R':List Int)(i:Nat)(hi:i<σ.slots.length)(hR:∀ z,R.count z=R'.count z+if z=(i:Int)+1 then 1 else 0):(σ.by i (-1)).Inv R' (((i:Int)+1)::T):=by
 have:=h.part R' i hi hR;rw[← Sb.call_by i hi (-1)];exact this
theorem xmc(p:D32)(d e:Nat)(hd:d≤256)(he:e<d):tb (xo8 p (d:Int) false).l e=tb p.l e:=by
 have h0:xgz p.l (d:Int) false=be 32 (xhb (nOf p.l) d false):=by
  unfold xgz;rw[if_pos (by omega),Int.toNat_natCast]
 show tb (xgz p.l (d:Int) false) e=_;rw[h0,tb_be _ _ (xol _ _ _ (xeh p.h) hd) (by omega),xlt _ _ _ _ (by omega) hd,if_pos he,← xdw _ p.h _ (by omega)]
theorem xd2(a z:Int):(if (a==z)=true then 1 else 0:Nat)=if z=a then 1 else 0:=by
 by_cases h:z=a
 ·subst h;simp
 ·have h2 : ¬ a=z:=fun e=>h e.symm
  simp[h,h2]
theorem Sb.Inv.both(h:σ.Inv R [])(hroom:σ.used<σ.room)(d i j:Nat)(hd:d<256)(hi:i<σ.slots.length)(hj:j<σ.slots.length)(hne:i≠j){l r:Tre}(hl:IsT σ ((i:Int)+1) (d+1) l)(hr:IsT σ ((j:Int)+1) (d+1) r)(hok:(Tre.inner l r).Ok d)
  (hR:∀ z,R.count z=R'.count z+(if z=(i:Int)+1 then 1 else 0)+(if z=(j:Int)+1 then 1 else 0)) (σ2:Sb) (h2:σ2=((σ.take ⟨xco d σ.slots[i].nd.key σ.slots[i].nd.dig σ.slots[j].nd.dig ((i:Int)+1) ((j:Int)+1) (σ.slots[i].nd.size+σ.slots[j].nd.size),1,[]⟩).by i (-1)).by j (-1)) :
  σ2.Inv ((σ.next:Int)::R') []∧σ.Stays σ2∧IsT σ2 (σ.next:Int) d (.inner l r)∧σ2.room=σ.room∧σ2.used=σ.used+1:=by
 obtain⟨il,hil,eil,ci,di,si,_,_,ki⟩:=hl.nz (by omega);obtain⟨jr,hjr,ejr,cj,dj,sj,_,_,kj⟩:=hr.nz (by omega);obtain rfl:il=i:=by omega
 obtain rfl:jr=j:=by omega
 generalize he:(⟨xco d σ.slots[il].nd.key σ.slots[il].nd.dig σ.slots[jr].nd.dig ((il:Int)+1) ((jr:Int)+1) (σ.slots[il].nd.size+σ.slots[jr].nd.size),1,[]⟩:En)=e at h2;have hcj':(σ.by il (-1)).slots[jr]'(by rw[Sb.by_len];exact hj)=σ.slots[jr]:=(by_at il jr (-1) hj hne).2
 have g1:=h.give (((jr:Int)+1)::R') il hi (fun z=>by
  rw[List.count_cons,hR z,xd2];omega)
 have g2:=g1.give R' jr (by rw[Sb.by_len];exact hj) (fun z=>by
  rw[List.count_cons,xd2])
 have hN2:(σ.by il (-1)).Nice:=g1.nice
 have e2:σ2=((σ.by il (-1)).by jr (-1)).take e:=by
  rw[h2,Sb.take_by h.nice il hi ci,Sb.take_by hN2 jr (by rw[Sb.by_len];exact hj) (by rw[hcj'];exact cj)]
 have hlen:((σ.by il (-1)).by jr (-1)).slots.length=σ.slots.length:=by rw[Sb.by_len,Sb.by_len]
 have hnx:((σ.by il (-1)).by jr (-1)).next=σ.next:=by rw[Sb.by_next,Sb.by_next]
 have hS:σ.Stays ((σ.by il (-1)).by jr (-1)):=(Sb.Stays.by_ il (-1)).trans (Sb.Stays.by_ jr (-1))
 have g3:=g2.take e (Sb.take_ok g2.ok hroom e) [] (by rw[← he]) (by rw[← he]) (.inr ⟨il,by rw[hlen];exact hi,by rw[← he]⟩) (.inr ⟨jr,by rw[hlen];exact hj,by rw[← he]⟩) (fun z=>by
  rw[← he];unfold En.pts;simp only[List.count_cons,List.count_nil,beq_iff_eq];by_cases hz:z=0
  ·subst hz
   rw[if_neg (by omega),if_neg (by omega)];simp
  ·rw[if_neg hz];omega)
 have hS2:σ.Stays σ2:=by rw[e2];exact hS.trans (Sb.Stays.take g2.nice e)
 obtain⟨i0,hx,hrm,hus,hln,⟨hi0,hat0⟩,_⟩:=g2.taken e;refine⟨by rw[e2,← hnx];exact g3.1,hS2,?_,by rw[e2,hrm];rfl,by rw[e2,hus];rfl⟩;have hi0':i0<σ2.slots.length:=by rw[e2];exact hi0
 have hat:σ2.slots[i0]=e:=by subst e2;exact hat0
 refine⟨i0,hi0',by rw[← hnx,hx];omega,by rw[hat,← he];simp,by rw[hat,← he],by rw[hat,← he],?_,?_,?_,?_,?_⟩
 ·rw[hat,← he,← di,← dj]
 ·rw[hat,← he]
  show σ.slots[il].nd.size+σ.slots[jr].nd.size=_;rw[si,sj];omega
 ·intro k hk x hx'
  rw[hat,← he];show tb (xo8 σ.slots[il].nd.key (d:Int) false).l x=_;rw[xmc _ _ _ (by omega) hx'];obtain⟨_,okl,okr,_,_,hall,hl0,hr0⟩:=hok;by_cases hkl:l.keys = []
  ·obtain⟨_,hn⟩:=hl0 hkl
   rw[hn] at hl;have hl:(il:Int)+1=0:=hl;omega
  ·obtain⟨k1,hk1⟩:=List.exists_mem_of_ne_nil _ hkl
   rw[ki k1 hk1 x (by omega)];exact hall k1 (by simp[hk1]) k hk x hx'
 ·rw[hat,← he];exact hl.stay hS2
 ·rw[hat,← he];exact hr.stay hS2
end
section
variable {σ σ':Sb}{R R' T T':List Int}
theorem Sb.Inv.congr{R2 T2:List Int}(h:σ.Inv R T)(hR:∀ z,R.count z=R2.count z)(hT:∀ z,T.count z=T2.count z):σ.Inv R2 T2 :=
 ⟨h.ok,h.nice,fun i hi=>by rw[← hR,← hT];exact h.count i hi,fun i hi=>by rw[← hR];exact h.held i hi,h.free,h.used,
   fun z hz=>h.root z (List.count_pos_iff.1 (by rw[hR];exact List.count_pos_iff.2 hz)),fun z hz=>h.todo z (List.count_pos_iff.1 (by rw[hT];exact List.count_pos_iff.2 hz)),h.left,h.right⟩
theorem Sb.Inv.oneSide(h:σ.Inv R [])(hroom:σ.used<σ.room)(d i:Nat)(hd:d<256)(hi:i<σ.slots.length){t l r:Tre}(ht:IsT σ ((i:Int)+1) (d+1) t)(hR:∀ z,R.count z=R'.count z+(if z=(i:Int)+1 then 1 else 0))(e:En)(he1:e.count=1)(he2:e.nd.held=1)
  (hk:e.nd.kind=2) (hdp:e.nd.depth=(d:Int)) (hdg:e.nd.dig=tagI l.dg r.dg) (hsz:e.nd.size=((l.size+r.size:Nat):Int)) (hky:e.nd.key=xo8 σ.slots[i].nd.key (d:Int) false)
  (hside:(l=t∧r=.nil∧e.nd.left=(i:Int)+1∧e.nd.right=0)∨(l=.nil∧r=t∧e.nd.left=0∧e.nd.right=(i:Int)+1)) (hne:t.keys≠[]) (hall:∀ k∈t.keys,∀ k'∈t.keys,∀ x,x<d→tb k.l x=tb k'.l x) (σ2:Sb) (h2:σ2=(σ.take e).by i (-1)) :
  σ2.Inv ((σ.next:Int)::R') []∧σ.Stays σ2∧IsT σ2 (σ.next:Int) d (.inner l r)∧σ2.room=σ.room∧σ2.used=σ.used+1:=by
 obtain⟨il,hil,eil,ci,di,si,_,_,ki⟩:=ht.nz (by omega);obtain rfl:il=i:=by omega
 have g1:=h.give R' il hi hR;have e2:σ2=(σ.by il (-1)).take e:=by rw[h2,Sb.take_by h.nice il hi ci]
 have hlen:(σ.by il (-1)).slots.length=σ.slots.length:=Sb.by_len _ _;have hnx:(σ.by il (-1)).next=σ.next:=Sb.by_next _ _;have hin:(σ.by il (-1)).In ((il:Int)+1):=⟨il,by rw[hlen];exact hi,rfl⟩
 have g3:=g1.take e (Sb.take_ok g1.ok hroom e) [] he1 he2 (by rcases hside with⟨_,_,h3,_⟩ | ⟨_,_,h3,_⟩;exact .inr (by rw[h3];exact hin);exact .inl h3) (by rcases hside with⟨_,_,_,h3⟩ | ⟨_,_,_,h3⟩;exact .inl h3;exact .inr (by rw[h3];exact hin)) (fun z=>by
  unfold En.pts;simp only[List.count_cons,List.count_nil,beq_iff_eq];by_cases hz:z=0
  ·subst hz
   rw[if_neg (by omega)];simp
  ·have hz2 : ¬ (0:Int)=z:=fun e=>hz e.symm
   rcases hside with⟨_,_,h3,h4⟩ | ⟨_,_,h3,h4⟩
   ·rw[if_neg hz,h3,h4,if_neg hz2]
    omega
   ·rw[if_neg hz,h3,h4,if_neg hz2]
    omega)
 have hS2:σ.Stays σ2:=by rw[e2];exact(Sb.Stays.by_ il (-1)).trans (Sb.Stays.take g1.nice e)
 obtain⟨i0,hx,hrm,hus,hln,⟨hi0,hat0⟩,_⟩:=g1.taken e;refine⟨by rw[e2,← hnx];exact g3.1,hS2,?_,by rw[e2,hrm];rfl,by rw[e2,hus];rfl⟩;have hi0':i0<σ2.slots.length:=by rw[e2];exact hi0
 have hat:σ2.slots[i0]=e:=by subst e2;exact hat0
 have hkeys:∀ k∈l.keys++r.keys,k∈t.keys:=fun k hk=>by
  rcases hside with⟨rfl,rfl,_⟩ | ⟨rfl,rfl,_⟩
  ·simpa[Tre.keys] using hk
  ·simpa[Tre.keys] using hk
 refine⟨i0,hi0',by rw[← hnx,hx];omega,by rw[hat,he1];decide,by rw[hat,hk],by rw[hat,hdp],by rw[hat,hdg],by rw[hat,hsz],?_,?_,?_⟩
 ·intro k hk x hx'
  rw[hat,hky,xmc _ _ _ (by omega) hx'];obtain⟨k1,hk1⟩:=List.exists_mem_of_ne_nil _ hne;rw[ki k1 hk1 x (by omega)];exact hall k1 hk1 k (hkeys k hk) x hx'
 ·rw[hat]
  rcases hside with⟨rfl,rfl,h3,_⟩ | ⟨rfl,rfl,h3,_⟩
  ·rw[h3];exact ht.stay hS2
  ·exact h3
 ·rw[hat]
  rcases hside with⟨rfl,rfl,_,h3⟩ | ⟨rfl,rfl,_,h3⟩
  ·exact h3
  ·rw[h3];exact ht.stay hS2
def MadeT(D:Nat→Prop)(w:World)(gs g:Nat)(σ:Sb)(R':List Int)(d:Nat)(t:Tre)(c:Nat)(e:Ending)(w':World):Prop :=
 ∃ (z:Int)(D':Nat→Prop)(vs' vf':Sv)(σ':Sb),e=.returned (iV z)∧StP D' w' gs g σ' vs' vf'∧Stp D w D' w'∧σ'.Inv (if z=0 then R' else z::R') []∧σ.Stays σ'∧IsT σ' z d t∧σ'.room=σ.room∧σ'.used≤σ.used+c
end
section
variable {D:Nat→Prop}{w w':World}{gs g:Nat}{σ:Sb}{vs vf:Sv}
theorem xf0(h:StP D w gs g σ vs vf)(R R':List Int)(hI:σ.Inv R [])(z:Int)(i:Nat)(hz:z=(i:Int)+1)(hi:i<σ.slots.length)(hR:∀ y,R.count y=R'.count y+if y=(i:Int)+1 then 1 else 0)(hRl:R.length≤1073741824)(hRl2:R'.length≤1073741824) :
  Calls prog 130 #[pG gs,iV z] w (Drpd D w gs g σ R'):=by
 have HH:=hZ h
 have hcnt:σ.slots[i].count≠0:=by
  have h1:=hI.count i hi;have h2:=hR ((i:Int)+1);simp only[if_true] at h2;omega
 have hhe:0<σ.slots[i].nd.held:=by
  have h1:=hI.held i hi;have h2:=hR ((i:Int)+1);simp only[if_true] at h2;omega
 have hhl:=hI.held_le i hi;have GL:Hid (Got σ z σ.slots[i].nd σ.slots[i].val true):=hZ (.inl ⟨rfl,i,hz,hi,rfl,rfl,hcnt⟩);have k3:(σ.slots[i].nd.held==0)=false:=by simp;omega
 have HZ:=hZ (And.intro hz (And.intro hcnt hhe));have hpart:=hZ (hI.part R' i hi hR);have h0:∀ (i:Nat)(h:i<σ.slots.length),(σ.slots[i].nd.left=0∨σ.In σ.slots[i].nd.left)∧(σ.slots[i].nd.right=0∨σ.In σ.slots[i].nd.right):=fun i h=>⟨hI.left i h,hI.right i h⟩
 have HS0:=hZ h0;have HCB:Hid (-4611686018427387904≤σ.slots[i].nd.held + -1∧σ.slots[i].nd.held + -1≤4611686018427387904):=hZ (by omega);have HRL:=hZ hRl2;clear h hcnt hhe hhl hI hR hRl hRl2 h0 hz;obtain⟨w0,rfl,HL⟩:=lS w;go_enter func130,ntmps130;go_upto_region 0 with fail;refine X2y ?_;go_upto_region 1 with fail;refine X3z ?_;intro K hK;refine X5l ?_;rintro e w ⟨rfl,rfl⟩;refine X20 ?_;clear hK K;go_upto_region 3 with fail;refine X4h ?_;intro K hK;refine X6i ?_;refine X4f ?_;clear hK K;intro g6 w HL;go_upto_region 4 with fail;refine X6k ?_;refine X6 ?_;refine X6l ?_;have hP1:=HH.out.below HL.below;have hS1:Stp D w0 D w:=Stp.of_below HL.below;clear HL;go_upto_region 6 with fail;refine X5b ?_;intro K hK;(with_reducible refine(xdp hP1 z (-1) i HZ.out.1 hi HZ.out.2.1 HCB.out).mono ?_);rintro e w ⟨rfl,hP2,hf2⟩
 refine X7h ?_;intro hS2;clear hf2 hS1 hP1;refine X20 ?_;clear hK K;have HP:=hZ hP2;have HS:=hZ hS2;clear hP2 hS2;have hlt0:Hid (w0.heap.size≤w.heap.size):=hZ HS.out.fr.size;have HL:=Loc.start w;obtain⟨w2,rfl⟩:=eW w;go_upto_region 7 with fail;refine X1j ?_;go_upto_region 8 with fail;refine X12 ?_;refine xd9 sl71 el3 rfl _ rfl HL _ rfl rfl ?_;clear HL;intro g36 w HL;(try simp only[Act.eval,qa,qb,qc,qd,qe] at HL);refine X1a ?_
 have HK:Hid (DrL D w0 gs g σ R' (iV 0) (Value.slice (aS g36) 1 1) w):=hZ (by
  have hLr:=HL.redo (Fr.refl (fun _=>False) w) (fun _ _ f=>f);have hg36:=(HL.own _ (.head _)).1;refine⟨0,⟨aS g36,1,1⟩,[z],[(g36,3,[iV z])],D,vs,vf,_,rfl,rfl,?_,Nat.le_refl _,HP.out.below HL.below,HS.out.trans (Stp.of_below HL.below),?_,Sb.Keeps.held i hi _,rfl,xb7 _ _ _,⟨by simp[xdc],.inr ⟨g36,1,[],rfl,rfl,Nat.le_refl _,by unfold maxLen;omega,by simp[xdc]⟩⟩,?_,fun k hk=>?_,fun y hy=>?_⟩
  ·simp[Sb.call,Sb.put]
  ·rw[HZ.out.1];exact hpart.out
  ·simpa using hLr
  ·refine⟨Nat.lt_of_lt_of_le (HP.out.sb.lt k hk) HL.fr.size,fun y hy e=>?_⟩
   simp only[qm,qn,List.mem_cons,List.not_mem_nil,or_false] at hy;subst hy;exact hg36 (by rw[e];exact HP.out.sb.lt k hk)
  ·simp only[List.mem_cons,List.not_mem_nil,or_false] at hy
   subst hy;have h1:=hlt0.out;have h2 : ¬ g36<w2.heap.size:=hg36;show w0.heap.size≤g36
   omega)
 clear HP HS HL hpart;go_wp2_with fail
 go_loopw [8,9] (fun a b wr=>DrL D w0 gs g σ R' a b wr) (fun a b _=>3*(σ.used - (intOf a).toNat)+xmb b)
 case atStart=>exact HK.out
 case round=>as_aux_lemma =>
  clear HK;obtain⟨f,sv,T,G,D1,vs1,vf1,σ1,rfl,rfl,hu,hTl,hP,hS,hI,hK0,hrm,hsl,hG,HL,hDr,hGn⟩:=hrel;obtain⟨w,rfl⟩:=eW wr;obtain⟨w1,rfl⟩:=eW w;have HP:=hZ hP;have HS:=hZ hS;have HIN:=hZ hI;have HKE:=hZ hK0;have HD:=hZ hDr;have HGN:=hZ hGn;have HUS:=hZ hu;have HTL:=hZ hTl;clear hP hS hI hK0 hDr hGn hu hTl;have HSL:Hid (sv.n=T.length):=hZ hG.len;rcases List.eq_nil_or_concat T with rfl | ⟨T0,z1,hT⟩
  ·have k2:decide ((([]:List Int).length:Int)>0)=false:=by simp
   go_upto_region 9 with fail;refine X12 ?_;refine xaa rfl _ (xam underlying71 _ rfl sv ([]:List Int).length rfl HSL.out) ?_;refine X6 ?_;refine Xa2 ?_;refine X1z ?_;go_upto_region 22 with fail;refine X3s ?_;go_wp2_with fail;go_ret2;exact⟨_,D1,vs1,vf1,σ1,rfl,HP.out,HS.out,HIN.out,HKE.out,by have:=HUS.out;omega,hrm,hsl⟩
  ·rw[List.concat_eq_append] at hT
   subst hT;obtain⟨gT,tl,cap,rfl,rfl,hcap⟩:=hG.some (by simp);have hTn:(T0++[z1]).length=T0.length+1:=by simp
   obtain⟨m,hm⟩:∃ m,T0.length=m:=⟨_,rfl⟩;rw[hTn,hm] at hG hcap HSL ⊢;have k2:decide (((m+1:Nat):Int)>0)=true:=by simp
   have HI1:Hid (((m+1:Nat):Int) - 1=(m:Int)):=hZ (by omega);obtain⟨j,hj,hzj⟩:=HIN.out.todo z1 (by simp);have HZJ:=hZ hzj;have HG:=hZ hG
   have HM:Hid (m≤100000):=hZ (by
    have h3:=HTL.out;have h4:=HUS.out;have h9:=HH.out.sb.ok;have h10:=h9.r2;have h11:=h9.few;have h12:=h9.fit;rw[hTn,hm] at h3
    omega)
   have hct:1≤(T0++[z1]).count ((j:Int)+1):=by rw[hzj];exact List.count_pos_iff.2 (by simp)
   have HCT:=hZ hct;have hcj:=HIN.out.count j hj
   have HCJ:Hid (σ1.slots[j].count≠0∧1≤σ1.slots[j].count∧σ1.slots[j].count<1099511627776):=hZ (by
    have h1:=HIN.out.count_le j hj;have h2:=HRL.out;have h3:=HTL.out;have h4:=HUS.out;have h5:=HIN.out.ok;have h6:=h5.few;have h7:=h5.r2;have h8:=h5.fit;have h9:=HH.out.sb.ok;have h10:=h9.r2;have h11:=h9.few;have h12:=h9.fit
    refine⟨by omega,by omega,by omega⟩)
   have HCZ:Hid ((xdc (T0++[z1])++tl)[m*1]? = some (iV z1)):=hZ (by
    rw[Nat.mul_one,xea,List.append_assoc,List.getElem?_append_right (by rw[xin];omega),xin,hm,Nat.sub_self];rfl)
   have GT:Hid (Got σ1 z1 σ1.slots[j].nd σ1.slots[j].val true):=hZ (.inl ⟨rfl,j,hzj,hj,rfl,rfl,HCJ.out.1⟩);clear hzj hG hct hcj;go_upto_region 9 with fail;refine X12 ?_;refine Xa3 ?_;refine X6 ?_;refine xaa rfl _ (xbq (b:=true) _ _ rfl _ _ rfl rfl k2) ?_;refine X1z ?_;go_upto_region 10 with fail;refine X19 ?_;refine Xa3 ?_;refine X6 ?_;refine xaa rfl _ (xa2 _ _ rfl _ _ _ rfl rfl HI1.out (by have:=HM.out;omega)) ?_;refine X6 ?_;refine xaa rfl _ (xap sl71 _ _ rfl gT (m+1) cap m .i64 rfl rfl (by omega)) ?_;refine X6 ?_;refine xaa rfl _ (xai sc3 HL _ rfl _ _ rfl _ _ _ (.head _) HCZ.out) ?_;refine X1a ?_;go_upto_region 11 with fail;refine X19 ?_;refine Xa3 ?_;refine X6 ?_;refine xaa rfl _ (xa2 _ _ rfl _ _ _ rfl rfl HI1.out (by have:=HM.out;omega)) ?_;refine X6 ?_
   refine xaa rfl _ (xbw sl71 _ _ rfl _ (m+1) cap m .i64 rfl rfl (by omega)) ?_;refine X1a ?_;go_upto_region 12 with fail;refine X4h ?_;intro K hK;(with_reducible refine(xfy HP.out.sw _ _ _ true GT.out).mono ?_);refine X4a ?_;clear hK K;intro w HL;refine xah xf4 rfl rfl HL ?_;clear HL;intro g11 w HL;refine X4d ?_;clear HL;intro w HL;have hPw:StP D1 w gs g σ1 vs1 vf1:=HP.out.fr HL.fr (fun k hk n=>n (HD.out k hk));have hSw:Stp D w0 D1 w:=HS.out.after HL (by simpa using HGN.out);have HGO:=hZ (HD.out _ HP.out.own);have HGC:=hZ HP.out.c
   have HG2:Hid (Gw 3 1 [(gT,3,xdc (T0++[z1])++tl)] ⟨aS gT,m,cap⟩ m (xdc T0)):=hZ (by
    have h1:=HG.out;rw[xea] at h1;have h2:=h1.short (m:=m) (by rw[xin];omega) (by omega) (by omega)
    rw[xea];exact h2)
   by_cases hc1:σ1.slots[j].count=1
   ·have hu1:=HIN.out.used_pos j hj (by omega)
    go_upto_region 13 with fail;refine Xa4 ?_;refine X42 ?_;intro K hK;refine xad cf190 rfl _ rfl ?_;refine X1w ?_;(with_reducible refine(xqv hPw.sb z1 j HZJ.out hj hc1 hu1).mono ?_);rintro e w ⟨D2,vf2,rfl,hsb,hst,hf⟩;have hP3:StP D2 w gs g (σ1.letGo j) vs1 vf2:=⟨hPw.blk.fr hf hPw.sbs,hst.old _ hPw.own,hsb⟩;have hS3:=hSw.trans hst
    have hD2:∀ k,D2 k→Rest w ((g11,230,σ1.slots[j].nd.cells)::([(gT,3,xdc (T0++[z1])++tl)]++[])) k:=fun k hk=>⟨hsb.lt k hk,fun y hy e=>by
     have h1:=HL.own y hy;rcases hst.new k hk with h2 | h2
     ·exact h1.1 (by rw[e];exact HD.out k h2)
     ·have:=h1.2.lt;omega⟩
    refine Xa5 ?_;intro HL2
    have HQ1:Hid (∀ y∈((g11,230,σ1.slots[j].nd.cells)::([(gT,3,xdc (T0++[z1])++tl)]++[])),w0.heap.size≤y.1):=hZ (fun y hy=>by
     rcases List.mem_cons.1 hy with rfl | hy
     ·refine Nat.le_of_not_lt fun hlt=>(HL.own _ (.head _)).1 ⟨by have:=HS.out.fr.size;show g11<_;omega,fun x hx e=>?_⟩
      have h1:=HGN.out x (by simpa using hx);have hlt:g11<w0.heap.size:=hlt;have e:x.1=g11:=e;omega
     ·exact HGN.out y (by simpa using hy))
    clear HL;have HL:=HL2;clear HL2;refine X7l ?_;clear hK K;have HP3:=hZ hP3;have HS3:=hZ hS3;have HD2:=hZ hD2;have HF1:Hid ((f:Int)+1=((f+1:Nat):Int)):=hZ (by omega);clear hP3 hS3 hD2 hPw hSw hst hf hsb;go_upto_region 14 with fail;refine X2n ?_;go_upto_region 15 with fail;refine X12 ?_;refine xaa rfl _ (xa6 _ _ rfl _ _ _ rfl rfl HF1.out (by have h4:=HUS.out;have h5:=HIN.out.ok;have h7:=h5.r2;have h9:=HH.out.sb.ok;have h10:=h9.r2;have h11:=h9.few;have h12:=h9.fit;omega)) ?_;refine X1a ?_;obtain⟨nr,hnr⟩:∃ nr,σ1.slots[j].nd.right=nr:=⟨_,rfl⟩;obtain⟨nl,hnl⟩:∃ nl,σ1.slots[j].nd.left=nl:=⟨_,rfl⟩;have HNR:=hZ hnr;have HNL:=hZ hnl;have HLN:Hid (∀ y∈((g11,230,σ1.slots[j].nd.cells)::([(gT,3,xdc (T0++[z1])++tl)]++[])),w0.heap.size≤y.1):=hZ HQ1.out
    have HLT:Hid (w0.heap.size≤w.heap.size):=hZ HS3.out.fr.size;obtain⟨w3,rfl⟩:=eW w;go_upto_region 16 with fail;refine Xt ?_;refine xaa rfl _ (xaf xsd _ rfl _ rfl) ?_;refine X6 ?_;refine xaa rfl _ (xai sc3 HL _ rfl _ _ rfl _ _ _ (.head _) (Nd.g_right _)) ?_;refine X6 ?_;refine xaa rfl _ (xaf xsc _ rfl _ rfl) ?_;refine X6 ?_;refine xaa rfl _ (xai sc3 HL _ rfl _ _ rfl _ _ _ (.head _) (Nd.g_left _)) ?_;refine X6 ?_;refine xaa rfl _ (xuq _ _ rfl nr nl (by rw[← hnr];rfl) (by rw[← hnl];rfl)) ?_;refine X1e ?_;clear hnr hnl;go_wp2_with fail;by_cases hr0:nr≠0
    ·have hr0:nr≠0:=hr0
     by_cases hl0:nl≠0
     ·have kR:(nr==0)=false:=by simpa using hr0
      have kL:(nl==0)=false:=by simpa using hl0
      have HCO:Hid (∀ y,(T0++[nr]++[nl]).count y+(if y=(j:Int)+1 then 1 else 0)=(T0++[z1]).count y+(if y=0 then 0 else σ1.slots[j].pts y)):=hZ (by
       intro y;have h1:=HZJ.out;have h2:=HNR.out;have h3:=HNL.out;unfold En.pts;rw[h2,h3,h1];refine Xa6 ?_;by_cases hy0:y=0
       ·subst hy0
        simp[hr0,hl0]
        try rw[if_neg (show ¬ (0:Int)=(j:Int)+1 by omega),if_neg (show ¬ (j:Int)+1=0 by omega)]
        try omega
       ·simp only[hy0,if_false]
        have e1:∀ p q:Int,(if p=q then 1 else 0:Nat)=if q=p then 1 else 0:=fun p q=>by by_cases h:p=q<;>simp[h,eq_comm]
        rw[e1 ((j:Int)+1) y]
        omega)
      refine X69 ?_;rw[rounds_succ];go_upto_region 17 with fail;refine X6a ?_;go_upto_region 18 with fail;refine Xt ?_;refine Xa7 ?_;refine X1a ?_;go_upto_region 19 with fail;refine Xa8 ?_;refine X1z ?_;go_upto_region 20 with fail;refine X19 ?_;refine Xa9 ?_;clear HL;intro g82 w HL;refine X50 ?_;intro K hK;refine xan sl71 el3 _ _ rfl [_,_] (m) ⟨aS gT,m,cap⟩ (xdc T0) HG2.out HL rfl ⟨g82,0,none⟩ 1 1 [iV nr] rfl (Rd.of_blk0 (es:=[]) (by rw[List.append_nil];exact HL.blk (.head _))) rfl (fun u hu=>by simp at hu;subst hu;rfl) (by decide) (by have:=HM.out;omega) (by have:=HM.out;omega) ?_;clear HL;intro tR GR w hGR HL;simp only[qm,qn] at HL;refine Xaa ?_;clear hK K;have HGR:=hZ hGR;clear hGR;go_upto_region 21 with fail;refine X6p ?_;go_wp2_with fail;rw[rounds_succ];go_upto_region 17 with fail;refine X6a ?_;go_upto_region 18 with fail
      refine Xt ?_;refine Xab ?_;refine X1a ?_;go_upto_region 19 with fail;refine Xac ?_;refine X1z ?_;go_upto_region 20 with fail;refine X19 ?_;refine Xa9 ?_;clear HL;intro g82 w HL;refine X50 ?_;intro K hK;refine xan sl71 el3 _ _ rfl [_,_,_] (m+1) tR (xdc T0++[iV nr]) HGR.out HL rfl ⟨g82,0,none⟩ 1 1 [iV nl] rfl (Rd.of_blk0 (es:=[]) (by rw[List.append_nil];exact HL.blk (.head _))) rfl (fun u hu=>by simp at hu;subst hu;rfl) (by decide) (by have:=HM.out;omega) (by have:=HM.out;omega) ?_;clear HL;intro tL GL w hGL HL;simp only[qm,qn] at HL;refine Xaa ?_;clear hK K;have HGL:=hZ hGL;clear hGL;go_upto_region 21 with fail;refine X6p ?_;go_wp2_with fail;rw[rounds_succ];go_upto_region 17 with fail;refine X6a ?_;go_wp2_with fail
      have HFN:Hid (DrL D w0 gs g σ R' (.int .i64 ((f+1:Nat):Int)) (Sv.v tL) w):=hZ (by
       refine Xad ?_;intro hPw;have hu1:=HIN.out.used_pos j hj (by omega);have hin:=HIN.out.go (T0++[nr]++[nl]) j hj hc1 HCT.out HCO.out;have hke:=HKE.out.go HS0.out HIN.out j hj hc1 HCT.out;have hLd:=HL.drop (GL++[]) (by first | exact sA [_,_,_] _ | simp);refine⟨f+1,tL,T0++[nr]++[nl],GL,D2,vs1,vf2,σ1.letGo j,rfl,rfl,?_,?_,hPw,?_,hin,hke,hrm,?_,?_,hLd.redo (Fr.refl (fun _=>False) w) (fun _ _ f=>f),?_,?_⟩
       ·have h1:=HUS.out
        show f+1+(σ1.used - 1)=σ.used;omega
       ·have h1:=HTL.out
        simp only[qp,qr,qs] at h1 ⊢;omega
       ·exact HS3.out.after HL HLN.out
       ·rw[← hsl];simp[Sb.letGo]
       ·have h1:=HGL.out
        have e:(T0++[nr]++[nl]).length=m+1+1:=by simp[hm]
        rw[e];rw[xea,xea];exact h1
       ·intro k hk
        refine⟨hPw.sb.lt k hk,?_⟩;intro y hy e;have h1:=hLd.own y hy;exact h1.1 (by rw[e];exact HD2.out k hk)
       ·intro y hy
        have h1:=(hLd.own y (by simp[hy]));refine Nat.le_of_not_lt fun hlt=>h1.1 ?_
        exact⟨by have:=HLT.out;omega,fun x hx e=>by have:=HLN.out x hx;omega⟩)
      go_roundw
      case rel=>exact HFN.out
      case measure =>
       have q1:=HUS.out;have q2:=hu1;have q3:=HGL.out.len;simp[intOf,Sv.v,xmb];omega
     ·have hl0:nl=0:=Decidable.not_not.1 hl0
      have kR:(nr==0)=false:=by simpa using hr0
      have kL:(nl==0)=true:=by simpa using hl0
      have HCO:Hid (∀ y,(T0++[nr]).count y+(if y=(j:Int)+1 then 1 else 0)=(T0++[z1]).count y+(if y=0 then 0 else σ1.slots[j].pts y)):=hZ (by
       intro y;have h1:=HZJ.out;have h2:=HNR.out;have h3:=HNL.out;unfold En.pts;rw[h2,h3,h1];refine Xa6 ?_;by_cases hy0:y=0
       ·subst hy0
        simp[hr0]
        try rw[if_neg (show ¬ (0:Int)=(j:Int)+1 by omega),if_neg (show ¬ (j:Int)+1=0 by omega)]
        try omega
       ·have q2 : ¬ nl=y:=fun e=>hy0 (by rw[← e,hl0])
        simp only[hy0,if_false,q2];have e1:∀ p q:Int,(if p=q then 1 else 0:Nat)=if q=p then 1 else 0:=fun p q=>by by_cases h:p=q<;>simp[h,eq_comm]
        rw[e1 ((j:Int)+1) y]
        omega)
      refine X69 ?_;rw[rounds_succ];go_upto_region 17 with fail;refine X6a ?_;go_upto_region 18 with fail;refine Xt ?_;refine Xa7 ?_;refine X1a ?_;go_upto_region 19 with fail;refine Xa8 ?_;refine X1z ?_;go_upto_region 20 with fail;refine X19 ?_;refine Xa9 ?_;clear HL;intro g82 w HL;refine X50 ?_;intro K hK;refine xan sl71 el3 _ _ rfl [_,_] (m) ⟨aS gT,m,cap⟩ (xdc T0) HG2.out HL rfl ⟨g82,0,none⟩ 1 1 [iV nr] rfl (Rd.of_blk0 (es:=[]) (by rw[List.append_nil];exact HL.blk (.head _))) rfl (fun u hu=>by simp at hu;subst hu;rfl) (by decide) (by have:=HM.out;omega) (by have:=HM.out;omega) ?_;clear HL;intro tR GR w hGR HL;simp only[qm,qn] at HL;refine Xaa ?_;clear hK K;have HGR:=hZ hGR;clear hGR;go_upto_region 21 with fail;refine X6p ?_;go_wp2_with fail;rw[rounds_succ];go_upto_region 17 with fail;refine X6a ?_;go_upto_region 18 with fail
      refine Xt ?_;refine Xab ?_;refine X1a ?_;go_upto_region 19 with fail;refine Xae ?_;refine X1z ?_;go_upto_region 21 with fail;refine X6p ?_;go_wp2_with fail;rw[rounds_succ];go_upto_region 17 with fail;refine X6a ?_;go_wp2_with fail
      have HFN:Hid (DrL D w0 gs g σ R' (.int .i64 ((f+1:Nat):Int)) (Sv.v tR) w):=hZ (by
       refine Xad ?_;intro hPw;have hu1:=HIN.out.used_pos j hj (by omega);have hin:=HIN.out.go (T0++[nr]) j hj hc1 HCT.out HCO.out;have hke:=HKE.out.go HS0.out HIN.out j hj hc1 HCT.out;have hLd:=HL.drop (GR++[]) (by first | exact sA [_,_] _ | simp);refine⟨f+1,tR,T0++[nr],GR,D2,vs1,vf2,σ1.letGo j,rfl,rfl,?_,?_,hPw,?_,hin,hke,hrm,?_,?_,hLd.redo (Fr.refl (fun _=>False) w) (fun _ _ f=>f),?_,?_⟩
       ·have h1:=HUS.out
        show f+1+(σ1.used - 1)=σ.used;omega
       ·have h1:=HTL.out
        simp only[qp,qr,qs] at h1 ⊢;omega
       ·exact HS3.out.after HL HLN.out
       ·rw[← hsl];simp[Sb.letGo]
       ·have h1:=HGR.out
        have e:(T0++[nr]).length=m+1:=by simp[hm]
        rw[e];rw[xea];exact h1
       ·intro k hk
        refine⟨hPw.sb.lt k hk,?_⟩;intro y hy e;have h1:=hLd.own y hy;exact h1.1 (by rw[e];exact HD2.out k hk)
       ·intro y hy
        have h1:=(hLd.own y (by simp[hy]));refine Nat.le_of_not_lt fun hlt=>h1.1 ?_
        exact⟨by have:=HLT.out;omega,fun x hx e=>by have:=HLN.out x hx;omega⟩)
      go_roundw
      case rel=>exact HFN.out
      case measure =>
       have q1:=HUS.out;have q2:=hu1;have q3:=HGR.out.len;simp[intOf,Sv.v,xmb];omega
    ·have hr0:nr=0:=Decidable.not_not.1 hr0
     by_cases hl0:nl≠0
     ·have kR:(nr==0)=true:=by simpa using hr0
      have kL:(nl==0)=false:=by simpa using hl0
      have HCO:Hid (∀ y,(T0++[nl]).count y+(if y=(j:Int)+1 then 1 else 0)=(T0++[z1]).count y+(if y=0 then 0 else σ1.slots[j].pts y)):=hZ (by
       intro y;have h1:=HZJ.out;have h2:=HNR.out;have h3:=HNL.out;unfold En.pts;rw[h2,h3,h1];refine Xa6 ?_;by_cases hy0:y=0
       ·subst hy0
        simp[hl0]
        try rw[if_neg (show ¬ (0:Int)=(j:Int)+1 by omega),if_neg (show ¬ (j:Int)+1=0 by omega)]
        try omega
       ·have q1 : ¬ nr=y:=fun e=>hy0 (by rw[← e,hr0])
        simp only[hy0,if_false,q1];have e1:∀ p q:Int,(if p=q then 1 else 0:Nat)=if q=p then 1 else 0:=fun p q=>by by_cases h:p=q<;>simp[h,eq_comm]
        rw[e1 ((j:Int)+1) y]
        omega)
      refine X69 ?_;rw[rounds_succ];go_upto_region 17 with fail;refine X6a ?_;go_upto_region 18 with fail;refine Xt ?_;refine Xa7 ?_;refine X1a ?_;go_upto_region 19 with fail;refine Xaf ?_;refine X1z ?_;go_upto_region 21 with fail;refine X6p ?_;go_wp2_with fail;rw[rounds_succ];go_upto_region 17 with fail;refine X6a ?_;go_upto_region 18 with fail;refine Xt ?_;refine Xab ?_;refine X1a ?_;go_upto_region 19 with fail;refine Xac ?_;refine X1z ?_;go_upto_region 20 with fail;refine X19 ?_;refine Xa9 ?_;clear HL;intro g82 w HL;refine X50 ?_;intro K hK;refine xan sl71 el3 _ _ rfl [_,_] (m) ⟨aS gT,m,cap⟩ (xdc T0) HG2.out HL rfl ⟨g82,0,none⟩ 1 1 [iV nl] rfl (Rd.of_blk0 (es:=[]) (by rw[List.append_nil];exact HL.blk (.head _))) rfl (fun u hu=>by simp at hu;subst hu;rfl) (by decide) (by have:=HM.out;omega) (by have:=HM.out;omega) ?_
      clear HL;intro tL GL w hGL HL;simp only[qm,qn] at HL;refine Xaa ?_;clear hK K;have HGL:=hZ hGL;clear hGL;go_upto_region 21 with fail;refine X6p ?_;go_wp2_with fail;rw[rounds_succ];go_upto_region 17 with fail;refine X6a ?_;go_wp2_with fail
      have HFN:Hid (DrL D w0 gs g σ R' (.int .i64 ((f+1:Nat):Int)) (Sv.v tL) w):=hZ (by
       refine Xad ?_;intro hPw;have hu1:=HIN.out.used_pos j hj (by omega);have hin:=HIN.out.go (T0++[nl]) j hj hc1 HCT.out HCO.out;have hke:=HKE.out.go HS0.out HIN.out j hj hc1 HCT.out;have hLd:=HL.drop (GL++[]) (by first | exact sA [_,_] _ | simp);refine⟨f+1,tL,T0++[nl],GL,D2,vs1,vf2,σ1.letGo j,rfl,rfl,?_,?_,hPw,?_,hin,hke,hrm,?_,?_,hLd.redo (Fr.refl (fun _=>False) w) (fun _ _ f=>f),?_,?_⟩
       ·have h1:=HUS.out
        show f+1+(σ1.used - 1)=σ.used;omega
       ·have h1:=HTL.out
        simp only[qp,qr,qs] at h1 ⊢;omega
       ·exact HS3.out.after HL HLN.out
       ·rw[← hsl];simp[Sb.letGo]
       ·have h1:=HGL.out
        have e:(T0++[nl]).length=m+1:=by simp[hm]
        rw[e];rw[xea];exact h1
       ·intro k hk
        refine⟨hPw.sb.lt k hk,?_⟩;intro y hy e;have h1:=hLd.own y hy;exact h1.1 (by rw[e];exact HD2.out k hk)
       ·intro y hy
        have h1:=(hLd.own y (by simp[hy]));refine Nat.le_of_not_lt fun hlt=>h1.1 ?_
        exact⟨by have:=HLT.out;omega,fun x hx e=>by have:=HLN.out x hx;omega⟩)
      go_roundw
      case rel=>exact HFN.out
      case measure =>
       have q1:=HUS.out;have q2:=hu1;have q3:=HGL.out.len;simp[intOf,Sv.v,xmb];omega
     ·have hl0:nl=0:=Decidable.not_not.1 hl0
      have kR:(nr==0)=true:=by simpa using hr0
      have kL:(nl==0)=true:=by simpa using hl0
      have HCO:Hid (∀ y,(T0).count y+(if y=(j:Int)+1 then 1 else 0)=(T0++[z1]).count y+(if y=0 then 0 else σ1.slots[j].pts y)):=hZ (by
       intro y;have h1:=HZJ.out;have h2:=HNR.out;have h3:=HNL.out;unfold En.pts;rw[h2,h3,h1];refine Xa6 ?_;by_cases hy0:y=0
       ·subst hy0
        simp[]
        try rw[if_neg (show ¬ (0:Int)=(j:Int)+1 by omega),if_neg (show ¬ (j:Int)+1=0 by omega)]
        try omega
       ·have q1 : ¬ nr=y:=fun e=>hy0 (by rw[← e,hr0])
        have q2 : ¬ nl=y:=fun e=>hy0 (by rw[← e,hl0])
        simp only[hy0,if_false,q1,q2];have e1:∀ p q:Int,(if p=q then 1 else 0:Nat)=if q=p then 1 else 0:=fun p q=>by by_cases h:p=q<;>simp[h,eq_comm]
        rw[e1 ((j:Int)+1) y]
        omega)
      refine X69 ?_;rw[rounds_succ];go_upto_region 17 with fail;refine X6a ?_;go_upto_region 18 with fail;refine Xt ?_;refine Xa7 ?_;refine X1a ?_;go_upto_region 19 with fail;refine Xaf ?_;refine X1z ?_;go_upto_region 21 with fail;refine X6p ?_;go_wp2_with fail;rw[rounds_succ];go_upto_region 17 with fail;refine X6a ?_;go_upto_region 18 with fail;refine Xt ?_;refine Xab ?_;refine X1a ?_;go_upto_region 19 with fail;refine Xae ?_;refine X1z ?_;go_upto_region 21 with fail;refine X6p ?_;go_wp2_with fail;rw[rounds_succ];go_upto_region 17 with fail;refine X6a ?_;go_wp2_with fail
      have HFN:Hid (DrL D w0 gs g σ R' (.int .i64 ((f+1:Nat):Int)) (Sv.v (⟨aS gT,m,cap⟩:Sv)) w3):=hZ (by
       have hPw:StP D2 w3 gs g (σ1.letGo j) vs1 vf2:=HP3.out;have hu1:=HIN.out.used_pos j hj (by omega);have hin:=HIN.out.go (T0) j hj hc1 HCT.out HCO.out;have hke:=HKE.out.go HS0.out HIN.out j hj hc1 HCT.out;have hLd:=HL.drop ([(gT,3,xdc (T0++[z1])++tl)]++[]) (by first | exact sA [_] _ | simp);refine⟨f+1,(⟨aS gT,m,cap⟩:Sv),T0,[(gT,3,xdc (T0++[z1])++tl)],D2,vs1,vf2,σ1.letGo j,rfl,rfl,?_,?_,hPw,?_,hin,hke,hrm,?_,?_,hLd.redo (Fr.refl (fun _=>False) w3) (fun _ _ f=>f),?_,?_⟩
       ·have h1:=HUS.out
        show f+1+(σ1.used - 1)=σ.used;omega
       ·have h1:=HTL.out
        simp only[qp,qr,qs] at h1 ⊢;omega
       ·exact HS3.out.after HL HLN.out
       ·rw[← hsl];simp[Sb.letGo]
       ·have h1:=HG2.out
        have e:(T0).length=m:=by simp[hm]
        rw[e];exact h1
       ·intro k hk
        refine⟨hPw.sb.lt k hk,?_⟩;intro y hy e;have h1:=hLd.own y hy;exact h1.1 (by rw[e];exact HD2.out k hk)
       ·intro y hy
        have h1:=(hLd.own y (by simp[hy]));refine Nat.le_of_not_lt fun hlt=>h1.1 ?_
        exact⟨by have:=HLT.out;omega,fun x hx e=>by have:=HLN.out x hx;omega⟩)
      go_roundw
      case rel=>exact HFN.out
      case measure =>
       have q1:=HUS.out;have q2:=hu1
       skip
       simp[intOf,Sv.v,xmb];omega
   ·have hcg:1<σ1.slots[j].count:=by have:=HCJ.out.2.1;omega
    go_upto_region 13 with fail;refine Xa4 ?_;refine X42 ?_;intro K hK;refine xad cf190 rfl _ rfl ?_;refine X1w ?_;(with_reducible refine(xhm hPw.sb z1 j HZJ.out hj hcg HCJ.out.2.2).mono ?_);rintro e w ⟨rfl,hsb,hf⟩;have hP3:StP D1 w gs g _ vs1 vf1:=⟨hPw.blk.fr hf hPw.sbs,hPw.own,hsb⟩;have hS3:=hSw.trans (Stp.of_fr hf fun k hk=>hPw.sb.own k hk);refine Xa5 ?_;intro HL2
    have HFN:Hid (DrL D w0 gs g σ R' (iV f) (Value.slice (aS gT) m cap) w):=hZ (by
     have hin:=HIN.out.stay T0 j hj hcg (fun y=>by
      rw[← HZJ.out];refine Xa6 ?_;by_cases h:z1=y
      ·subst h;simp
      ·have h2 : ¬ y=z1:=fun e=>h e.symm
       simp[h,h2])
     refine⟨f,⟨aS gT,m,cap⟩,T0,[(gT,3,xdc (T0++[z1])++tl)],D1,vs1,vf1,σ1.put j ⟨σ1.slots[j].nd,σ1.slots[j].count - 1,σ1.slots[j].val⟩,rfl,rfl,HUS.out,by have:=HTL.out;simp at this;omega,hP3,hS3,hin,HKE.out.put j hj _,hrm,by rw[xb7];exact hsl,by rw[hm];exact HG2.out,(HL2.drop _ (sB _ _)).redo (Fr.refl (fun _=>False) w) (fun _ _ f=>f),fun k hk=>⟨hsb.lt k hk,fun y hy e=>(HL.own y (.tail _ hy)).1 (by rw[e];exact HD.out k hk)⟩,HGN.out⟩)
    clear HL HL2 hP3 hS3;refine X7l ?_;clear hK K;clear hPw hSw;go_upto_region 14 with fail;refine X2n ?_;go_wp2_with fail;go_roundw
    case rel=>exact HFN.out
    case measure=>simp[intOf,Sv.v,xmb]<;>omega
end
theorem xht{σ:Sb}{i d:Nat}{t:Tre}(hi:i<σ.slots.length)(h:IsT σ ((i:Int)+1) (d+1) t)(hb:∀ k∈t.keys,tb k.l d=false)(hne:t.keys≠[]):FitN σ.slots[i].nd d 0:=by
 obtain⟨j,hj,e,_,_,_,hk,hd,hky⟩:=h.nz (by omega);obtain rfl:j=i:=by omega
 obtain⟨k,hk1⟩:=List.exists_mem_of_ne_nil _ hne;refine⟨by rw[hky k hk1 d (by omega),hb k hk1];rfl,fun h2=>?_⟩
 have hin:t.isIn=true:=by
  cases hti:t.isIn with
  | true=>rfl
  | false=>rw[hti] at hk;rw[hk] at h2;cases h2
 rw[hd hin];omega
theorem xhu{σ:Sb}{i d:Nat}{t:Tre}(hi:i<σ.slots.length)(h:IsT σ ((i:Int)+1) (d+1) t)(hb:∀ k∈t.keys,tb k.l d=true)(hne:t.keys≠[]):FitN σ.slots[i].nd d 1:=by
 obtain⟨j,hj,e,_,_,_,hk,hd,hky⟩:=h.nz (by omega);obtain rfl:j=i:=by omega
 obtain⟨k,hk1⟩:=List.exists_mem_of_ne_nil _ hne;refine⟨by rw[hky k hk1 d (by omega),hb k hk1];rfl,fun h2=>?_⟩
 have hin:t.isIn=true:=by
  cases hti:t.isIn with
  | true=>rfl
  | false=>rw[hti] at hk;rw[hk] at h2;cases h2
 rw[hd hin];omega
section
variable {D:Nat→Prop}{w w':World}{gs g:Nat}{σ:Sb}{vs vf:Sv}
theorem xgt(h:StP D w gs g σ vs vf)(R:List Int)(hI:σ.Inv R [])(z:Int)(d:Nat)(t:Tre)(ht:IsT σ z d t)(hRl:R.length≤536870912) :
  Calls prog 224 #[pG gs,iV z] w (MadeT D w gs g σ R d t 0):=by
 by_cases hz:z=0
 ·subst hz
  go_enter func224,ntmps224;go_upto_region 0 with fail;refine X1j ?_;go_upto_region 1 with fail;refine X2n ?_;go_upto_region 3 with fail;refine X7v ?_;go_wp2_with fail;go_ret;exact⟨0,D,vs,vf,σ,rfl,h,Stp.refl _ _,by simpa using hI,fun i hi hc=>⟨hi,rfl,rfl,hc⟩,ht,rfl,by omega⟩
 ·obtain⟨i,hi,hzi,hc,_⟩:=ht.nz hz
  have hcl:=hI.count_le i hi;have hhl:=hI.held_le i hi;have hok:=hI.ok;have h1:=hok.few;have h2:=hok.r2;have hcp:=hI.count i hi
  have HB:Hid (0<σ.slots[i].count∧σ.slots[i].count<1073741824∧(-4611686018427387904≤σ.slots[i].nd.held∧σ.slots[i].nd.held≤4611686018427387900)):=hZ (by
   simp only[qs] at hcl
   refine⟨by omega,by omega,by omega,by omega⟩)
  have k1:(z==0)=false:=by simpa using hz
  have HH:=hZ h;have HI:=hZ (hI.hold i hi hc);have HT:=hZ ht;have HZ:=hZ hzi;clear hcl hhl hok h1 h2 hcp h hI ht hzi;go_enter func224,ntmps224;go_upto_region 0 with fail;refine X1j ?_;go_upto_region 1 with fail;refine X12 ?_;refine X83 ?_;refine X1z ?_;go_upto_region 2 with fail;refine X2j ?_;intro K hK;refine X9r ?_;(with_reducible refine(xju HH.out z i HZ.out hi HB.out.1 HB.out.2.1 HB.out.2.2).mono ?_);rintro e w ⟨rfl,hP,hf⟩;refine X20 ?_;clear hK K;go_upto_region 3 with fail;refine X7v ?_;go_wp2_with fail;go_ret;have hS:σ.Stays (σ.hold i hi):=Sb.Stays.hold i hi (by have:=HB.out.1;omega);exact⟨z,D,vs,vf,σ.hold i hi,rfl,hP,Stp.of_fr hf (fun k hk=>HH.out.sb.own k hk),by rw[if_neg hz,HZ.out];exact HI.out.1,hS,HT.out.stay hS,rfl,by show σ.used≤_;omega⟩
end
end Go.Proofs.YtkjjdgnkelchfaaGreat
