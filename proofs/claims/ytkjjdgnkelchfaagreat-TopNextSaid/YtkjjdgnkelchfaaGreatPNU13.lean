import Derived.Test.YtkjjdgnkelchfaaGreatPNU12
set_option linter.unusedSimpArgs false
set_option linter.unusedVariables false
set_option maxRecDepth 100000
set_option maxHeartbeats 16000000
namespace Go.Proofs.YtkjjdgnkelchfaaGreat
open Go Go.RowKit Go.Proofs.Tryz
abbrev WE:=Wrt×LU
def clr(e:WE):WE:=if e.1.gone then (⟨e.1.key,true,Sv.nil⟩,[]) else e
def pw(e:WE):D32×Option LU:=(e.1.key,if e.1.gone then none else some e.2)
theorem xhy(e:WE):(clr e).1.key=e.1.key:=by unfold clr;split<;>rfl
theorem xnp(e:WE):pw (clr e)=pw e:=by
 unfold clr
 split
 ·next h=>unfold pw;rw[h];rfl
 ·rfl
theorem xpi{e:WE}(h:e.1.gone=true):clr e=(⟨e.1.key,true,Sv.nil⟩,[]):=by unfold clr;rw[if_pos h]
theorem xpj{e:WE}(h:e.1.gone=false):clr e=e:=by unfold clr;rw[h];rfl
def xdu(out:List WE)(e:WE):List WE:=if e.1.key∈out.map (fun q=>q.1.key) then out.map (fun q=>if q.1.key=e.1.key then e else q) else out++[e]
def lstW(es:List WE):List WE:=es.foldl (fun o e=>xdu o (clr e)) []
theorem xfl(es:List WE)(e:WE):lstW (es++[e])=xdu (lstW es) (clr e):=by simp[lstW,List.foldl_append]
theorem xgu{es:List WE}{i:Nat}(hi:i<es.length):lstW (es.take (i+1))=xdu (lstW (es.take i)) (clr es[i]):=by
 rw[← xfl,List.take_append_getElem]
theorem xiq(out:List WE)(e:WE):(xdu out e).map (fun q=>q.1.key)=if e.1.key∈out.map (fun q=>q.1.key) then out.map (fun q=>q.1.key) else out.map (fun q=>q.1.key)++[e.1.key]:=by
 unfold xdu
 split
 ·rw[List.map_map]
  refine List.map_congr_left fun q _=>?_
  simp only[Function.comp_def]
  split
  ·next h=>exact h.symm
  ·rfl
 ·simp
theorem xek{α:Type}{p:List α→Prop}(h0:p [])(h1:∀ l x,p l→p (l++[x]))(l:List α):p l:=by
 have:∀ n (l:List α),l.length=n→p l:=by
  intro n
  induction n with
  | zero=>intro l hl;rw[List.eq_nil_of_length_eq_zero hl];exact h0
  | succ n ih =>
   intro l hl;rcases List.eq_nil_or_concat l with rfl | ⟨m,x,rfl⟩
   ·exact h0
   ·rw[List.concat_eq_append]
    refine h1 m x (ih m ?_);simp at hl;exact hl
 exact this _ l rfl
theorem xq4(es:List WE):((lstW es).map (fun q=>q.1.key)).Nodup:=by
 induction es using xek with
 | h0=>simp[lstW]
 | h1 l x ih =>
  rw[xfl,xiq]
  split
  ·exact ih
  ·next h =>
   rw[List.nodup_append];exact⟨ih,by simp,fun a ha b hb e=>h (by simp at hb;subst hb;subst e;exact ha)⟩
theorem lstW_mem(es:List WE):∀ e∈lstW es,∃ e0∈es,e=clr e0:=by
 induction es using xek with
 | h0=>intro e he;simp[lstW] at he
 | h1 l x ih =>
  intro e he;rw[xfl] at he;unfold xdu at he
  split at he
  ·obtain⟨q,hq,rfl⟩:=List.mem_map.1 he
   split
   ·exact⟨x,by simp,rfl⟩
   ·obtain⟨e0,h1,h2⟩:=ih q hq
    exact⟨e0,by simp[h1],h2⟩
  ·rcases List.mem_append.1 he with he | he
   ·obtain⟨e0,h1,h2⟩:=ih e he
    exact⟨e0,by simp[h1],h2⟩
   ·rw[List.mem_singleton.1 he]
    exact⟨x,by simp,rfl⟩
theorem xpk(es:List WE):(lstW es).length≤es.length:=by
 induction es using xek with
 | h0=>simp[lstW]
 | h1 l x ih =>
  rw[xfl];unfold xdu
  split<;>simp<;>omega
def xct(ps:List (D32×Option LU))(k:D32):Option (Option LU):=ps.foldl (fun a p=>if p.1=k then some p.2 else a) none
theorem xeb(ps:List (D32×Option LU))(p:D32×Option LU)(k:D32):xct (ps++[p]) k=if p.1=k then some p.2 else xct ps k:=by simp[xct,List.foldl_append]
theorem xir(ps:List (D32×Option LU)){k:D32}{o:Option LU}(h:xct ps k=some o):(k,o)∈ps:=by
 induction ps using xek with
 | h0=>simp[xct] at h
 | h1 l x ih =>
  rw[xeb] at h
  split at h
  ·next e=>cases h;subst e;simp
  ·simp[ih h]
theorem xq5(ps:List (D32×Option LU)){k:D32}:xct ps k=none↔k∉ps.map Prod.fst:=by
 induction ps using xek with
 | h0=>simp[xct]
 | h1 l x ih =>
  rw[xeb]
  split
  ·next e=>simp[e]
  ·next e =>
   rw[ih];simp only[List.map_append,List.mem_append,qk,ql,List.mem_singleton,not_or];exact⟨fun h=>⟨h,fun h2=>e h2.symm⟩,fun h=>h.1⟩
theorem xur(es:List WE)(k:D32)(o:Option LU):(k,o)∈(lstW es).map pw↔xct (es.map pw) k=some o:=by
 induction es using xek generalizing o with
 | h0=>simp[lstW,xct]
 | h1 l x ih =>
  rw[xfl,List.map_append,List.map_cons,List.map_nil,xeb];have hk1:(pw x).1=x.1.key:=rfl;unfold xdu
  split
  ·next hin =>
   rw[xhy] at hin;by_cases hkx:x.1.key=k
   ·rw[if_pos (by rw[hk1];exact hkx)]
    constructor
    ·intro h
     rw[List.map_map] at h;obtain⟨q,hq,he⟩:=List.mem_map.1 h;simp only[Function.comp_def] at he
     split at he
     ·rw[xnp] at he
      rw[he]
     ·next hne =>
      have:=congrArg Prod.fst he;have e2:q.1.key=k:=this;rw[xhy] at hne;exact absurd (e2.trans hkx.symm) hne
    ·intro h
     rw[← hkx] at *;obtain⟨q,hq,he⟩:=List.mem_map.1 hin;rw[List.map_map];refine List.mem_map.2 ⟨q,hq,?_⟩;simp only[Function.comp_def];rw[if_pos (by rw[xhy];exact he),xnp];have:(pw x).2=o:=by simpa using h
     rw[← this];rfl
   ·rw[if_neg (by rw[hk1];exact hkx),← ih]
    rw[List.map_map];constructor
    ·intro h
     obtain⟨q,hq,he⟩:=List.mem_map.1 h;simp only[Function.comp_def] at he
     split at he
     ·rw[xnp] at he
      exact absurd (congrArg Prod.fst he) hkx
     ·exact List.mem_map.2 ⟨q,hq,he⟩
    ·intro h
     obtain⟨q,hq,he⟩:=List.mem_map.1 h;refine List.mem_map.2 ⟨q,hq,?_⟩;simp only[Function.comp_def];have e2:q.1.key=k:=congrArg Prod.fst he;rw[if_neg (by rw[xhy,e2];exact fun e=>hkx e.symm)];exact he
  ·next hin =>
   rw[xhy] at hin;rw[List.map_append,List.mem_append,List.map_cons,List.map_nil,List.mem_singleton,xnp,ih];by_cases hkx:x.1.key=k
   ·rw[if_pos (by rw[hk1];exact hkx)]
    have hno:xct (l.map pw) k=none:=by
     cases hq:xct (l.map pw) k with
     | none=>rfl
     | some o' =>
      obtain⟨q,h1,h2⟩:=List.mem_map.1 ((ih o').2 hq);exact absurd (List.mem_map.2 ⟨q,h1,(congrArg Prod.fst h2).trans hkx.symm⟩) hin
    constructor
    ·rintro(h | h)
     ·rw[hno] at h;cases h
     ·have h9:=congrArg Prod.snd h
      simp only at h9;rw[h9]
    ·intro h
     have h9:(pw x).2=o:=by simpa using h
     right;rw[← h9,← hkx];rfl
   ·rw[if_neg (by rw[hk1];exact hkx)]
    constructor
    ·rintro(h | h)
     ·exact h
     ·exact absurd (congrArg Prod.fst h).symm hkx
    ·intro h;exact .inl h
theorem xmg{α β:Type}(f:α→β):∀ (m:List β)(l:List α),m.Perm (l.map f)→∃ l':List α,l'.Perm l∧l'.map f=m
 | [],l,h=>by
  have:l.map f = []:=by simpa using h.symm.eq_nil
  exact⟨[],by rw[List.map_eq_nil_iff.1 this],rfl⟩
 | x::t,l,h=>by
  have hx:x∈l.map f:=h.subset (by simp);obtain⟨e,he,rfl⟩:=List.mem_map.1 hx;obtain⟨a,b,rfl⟩:=List.append_of_mem he
  have h2:t.Perm ((a++b).map f):=by
   have h3:(f e::t).Perm (f e::(a++b).map f):=h.trans (by simp);exact List.Perm.cons_inv h3
  obtain⟨l',h4,h5⟩:=xmg f t (a++b) h2;exact⟨e::l',(h4.cons e).trans List.perm_middle.symm,by simp[h5]⟩
def xf5(es:List WE):Prop:=es.Pairwise fun p q=>nOf p.1.key.l<nOf q.1.key.l
theorem rise_of{es:List WE}(h1:Srt Wrt.ky (es.map Prod.fst))(h2:(es.map fun q=>q.1.key).Nodup):xf5 es:=by
 unfold Srt at h1;rw[List.pairwise_map] at h1;rw[List.nodup_iff_pairwise_ne,List.pairwise_map] at h2;refine(h1.and h2).imp fun {a b} h=>?_
 have h3:nOf a.1.key.l≤nOf b.1.key.l:=h.1;refine Nat.lt_of_le_of_ne h3 fun e=>h.2 (D32.ext (xjk (by rw[a.1.key.h,b.1.key.h]) e))
def xel(ks:List D32):List (Value×Value):=ks.zipIdx.map fun x=>(.agg x.1.c.toArray,iV (x.2:Int))
theorem xq6(ks:List D32):xil prog 24 (xel ks):=fun x hx=>by
 obtain⟨y,_,rfl⟩:=List.mem_map.1 hx;exact key24 y.1
theorem xsx{a b:D32}(h:(Value.agg a.c.toArray)=.agg b.c.toArray):a=b:=by
 injection h with h;exact D32.c_inj (by simpa using congrArg Array.toList h)
theorem xq7{ks:List D32}{j:Nat}{k:D32}{u:Value}(h:(xel ks)[j]? = some (.agg k.c.toArray,u)):ks[j]? = some k∧u=.int .i64 (j:Int):=by
 unfold xel at h;rw[List.getElem?_map,List.getElem?_zipIdx] at h
 cases hk:ks[j]? with
 | none=>rw[hk] at h;cases h
 | some k' =>
  rw[hk] at h;simp only[Option.map_some,Option.some.injEq,Prod.mk.injEq,Nat.zero_add] at h;rw[xsx h.1];exact⟨rfl,h.2.symm⟩
theorem kvs_no{ks:List D32}{k:D32}(h:k∉ks):∀ x∈xel ks,x.1≠.agg k.c.toArray:=fun x hx e=>by
 obtain⟨y,hy,rfl⟩:=List.mem_map.1 hx;have e2:=xsx e;have:=List.fst_mem_of_mem_zipIdx hy;rw[e2] at this;exact h this
theorem xpl(ks:List D32)(k:D32):xel (ks++[k])=xel ks++[(.agg k.c.toArray,iV (ks.length:Int))]:=by
 simp[xel,List.zipIdx_append]
theorem kvs_some{ks:List D32}{j:Nat}{k:D32}(hj:ks[j]? = some k):(xel ks)[j]? = some (.agg k.c.toArray,iV j):=by
 simp[xel,List.getElem?_zipIdx,hj]
theorem xfm{α:Type}{l:List α}(h:l.Nodup){i j:Nat}{x:α}(hi:l[i]? = some x)(hj:l[j]? = some x):i=j:=by
 obtain⟨h1,e1⟩:=List.getElem?_eq_some_iff.1 hi;obtain⟨h2,e2⟩:=List.getElem?_eq_some_iff.1 hj;have hp:=List.pairwise_iff_getElem.1 (List.nodup_iff_pairwise_ne.1 h);rcases Nat.lt_trichotomy i j with hlt | he | hgt
 ·exact absurd (e1.trans e2.symm) (hp i j h1 h2 hlt)
 ·exact he
 ·exact absurd (e2.trans e1.symm) (hp j i h2 h1 hgt)
theorem xpm{out:List WE}{e:WE}{j:Nat}(h:(out.map fun q=>q.1.key).Nodup)(hj:(out.map fun q=>q.1.key)[j]? = some e.1.key):xdu out e=out.set j e:=by
 unfold xdu;rw[if_pos (List.mem_of_getElem? hj)];have hjl:j<out.length:=by have:=(List.getElem?_eq_some_iff.1 hj).1;simpa using this
 apply List.ext_getElem (by simp);intro i h1 h2;rw[List.getElem_map,List.getElem_set];have hil:i<out.length:=by simpa using h1
 by_cases hij:j=i
 ·subst hij
  rw[if_pos rfl,if_pos];obtain⟨h3,h4⟩:=List.getElem?_eq_some_iff.1 hj;simpa using h4
 ·rw[if_neg hij,if_neg]
  intro e2;refine hij (xfm h hj ?_);rw[List.getElem?_map,List.getElem?_eq_getElem hil,Option.map_some,e2]
theorem xpn{out:List WE}{e:WE}(h:e.1.key∉out.map fun q=>q.1.key):xdu out e=out++[e]:=by
 unfold xdu;rw[if_neg h]
theorem xpo(w:World):(zeroValue 3).run prog w=.ok (iV 0) w:=by kernel_rfl
theorem zr222:ZA prog 222 Wrt.z.cells:=⟨.agg Wrt.z.cells.toArray,by kernel_rfl,rfl⟩
theorem xfn:ET prog 222 (.agg Wrt.z.cells.toArray) 34 64:=⟨by kernel_rfl,by show Wrt.z.cells.length=_;exact Wrt.len _,by omega⟩
theorem MapP.loc{w1 w:World}{D:Nat→Prop}{L:BL}{b:Nat}{es:List (Value×Value)}(h:MapP w1 b es)(H:Loc w1 D L w)(hD:D b):MapP w b es:=by
 obtain⟨ents,clock,hb,he⟩:=h;exact⟨ents,clock,(H.heap hD).trans hb,he⟩
theorem ins0_w(w:World):Calls prog 252 #[.slice none 0 0,iV 0,iV 0,.func (.func 230) #[] #[]] w fun e w'=>e=.returned (.tuple #[])∧w=w':=by
 obtain⟨w0,rfl,HL⟩:=lS w;refine Xaz ?_;intro H01;have k14:decide (((1:Nat):Int)<0)=false:=by simp
 go_enter func252,ntmps252;go_upto_region 0 with fail;refine X12 ?_;refine Xb0 ?_;refine X1a ?_;go_wp2_with fail;refine X9q ?_;rw[rounds_succ];go_upto_region 1 with fail;refine Xb2 ?_;go_wp2_with fail
 go_end0
 exact⟨rfl,rfl⟩
theorem pdq0_w(w:World)(r:Int):Calls prog 248 #[.slice none 0 0,iV 0,iV 0,iV r,.func (.func 230) #[] #[]] w fun e w'=>e=.returned (.tuple #[])∧w=w':=by
 have C:=hZ (ins0_w w);have H0:Hid ((0:Int) - 0=0):=hZ (by omega);have k1:decide ((0:Int)≤12)=true:=by simp
 obtain⟨w0,rfl,HL⟩:=lS w;go_enter func248,ntmps248;go_upto_region 0 with fail;refine X1j ?_;go_upto_region 1 with fail;refine X1j ?_;go_wp2_with fail;refine X9q ?_;rw[rounds_succ];go_upto_region 2 with fail;refine X19 ?_;refine Xbr ?_;refine X1a ?_;go_upto_region 3 with fail;refine X12 ?_;refine Xbs ?_;refine X1z ?_;go_upto_region 4 with fail;refine X9a ?_;intro K hK;refine xad cf252 rfl _ rfl ?_;refine Xbt ?_;rintro e w ⟨rfl,rfl⟩;refine X20 ?_;clear hK K;go_wp2_with fail;refine Xbu ?_;exact⟨rfl,rfl⟩
theorem sort0_w(w:World):Calls prog 229 #[.slice none 0 0,.func (.func 230) #[] #[]] w fun e w'=>e=.returned (.tuple #[])∧w=w':=by
 have C:∀ r:Int,Hid (Calls prog 248 #[.slice none 0 0,iV 0,.int .i64 ((0:Nat):Int),iV r,.func (.func 230) #[] #[]] w fun e w'=>e=.returned (.tuple #[])∧w=w'):=fun r=>hZ (pdq0_w w r)
 obtain⟨w0,rfl,HL⟩:=lS w;have HB:=hZ (xhq (0:Int) w0 (by omega) (by omega));have hcv:IntKind.u64.wrap (0:Int)=0:=rfl;go_enter func229,ntmps229;go_upto_region 0 with fail;refine X12 ?_;refine xaa rfl _ (xam underlying220 _ rfl Sv.nil 0 rfl rfl) ?_;refine X1a ?_;go_upto_region 1 with fail;refine X6s ?_;refine Xbz ?_;refine X50 ?_;intro K hK;refine Xbx ?_;rintro e w ⟨r,rfl,rfl⟩;refine X1y ?_;clear hK K;refine X42 ?_;intro K hK;refine xad cf248 rfl _ rfl ?_;refine Xby ?_;rintro e w ⟨rfl,rfl⟩;refine X20 ?_;clear hK K;go_wp2_with fail
 go_end0
 exact⟨rfl,rfl⟩
def LsR(w0:World)(es:List WE)(gm i:Nat)(v:Value)(wr:World):Prop :=
 ∃ (out:List WE)(G:BL)(sv:Sv),v=sv.v∧out=lstW (es.take i)∧Gw 222 34 G sv out.length ((out.map Prod.fst).flatMap Wrt.cells)∧MapP wr gm (xel (out.map fun q=>q.1.key))∧Bw w0 wr ∧
  (∀ y∈G,w0.heap.size≤y.1∧y.1≠gm)∧Loc wr (Rest wr (G++[])) (G++[]) wr∧w0.heap.size≤gm
def LastO(D:Nat→Prop)(w:World)(es:List WE)(e:Ending)(w':World):Prop :=
 ∃ (v:Sv)(es':List WE),e=.returned v.v∧WriT D w' v.A v.n v.c (es'.map Prod.fst) (es'.map Prod.snd)∧xf5 es'∧(∀ k o,(k,o)∈es'.map pw↔xct (es.map pw) k=some o)∧es'.length≤es.length∧Bw w w'∧(∀ ad,v.A=some ad→w.heap.size≤ad.block)
theorem xnq(D:Nat→Prop)(w:World)(A:Option Addr)(n c:Nat)(es:List WE)(h:WriT D w A n c (es.map Prod.fst) (es.map Prod.snd))(hn:n≤12)(hD:∀ k,D k→k<w.heap.size) :
  Calls prog 187 #[.slice A n c] w (LastO D w es):=by
 have hel:es.length=n:=by have:=h.s.len;simpa using this
 have HW:=hZ h;have HEL:=hZ hel;have HDD:=hZ hD;clear h hel hD;obtain⟨w0,rfl,HL⟩:=lS w;go_enter func187,ntmps187;go_upto_region 0 with fail;refine X1j ?_;go_upto_region 1 with fail;refine Xt ?_;refine xst rfl rfl HL ?_;clear HL;intro gm w HL hM hgm _;refine X10 ?_;have HS:Hid (LsR w0 es gm 0 (.slice none 0 0) w):=hZ ⟨[],[],Sv.nil,rfl,rfl,Gw.nil 222 34,hM,HL.below,(fun y hy=>by cases hy),HL.redo (Fr.refl (fun _=>False) w) (fun _ _ f=>f),hgm⟩;clear hM hgm;go_upto_region 2 with fail;refine X1j ?_;go_upto_region 3 with fail;refine Xbv ?_;refine X1e ?_;clear HL;go_wp2_with fail
 go_loopw [4,12] (fun v z wr=>∃ i:Nat,i≤n∧z=.int .i64 (i:Int)∧LsR w0 es gm i v wr) (fun _ z _=>(n - intOf z).toNat)
 case atStart=>exact⟨0,Nat.zero_le _,rfl,HS.out⟩
 case round=>as_aux_lemma =>
  clear HS;obtain⟨i,hi,rfl,out,G,sv,rfl,hout,hG,hM,hB,hGN,HL,hgm⟩:=hrel;obtain⟨w,rfl⟩:=eW wr;obtain⟨w1,rfl⟩:=eW w;have HG:=hZ hG;have HM:=hZ hM;have HB:=hZ hB;have HGN:=hZ hGN;have HGM:=hZ hgm;have HOUT:=hZ hout;have HND:Hid ((out.map fun q=>q.1.key).Nodup):=hZ (by rw[hout];exact xq4 _)
  have HOL:out.length≤i:=by
   rw[hout];refine Nat.le_trans (xpk _) ?_;rw[List.length_take];omega
  have HGD:Hid (Rest w1 (G++[]) gm):=hZ ⟨hM.lt,fun u hu e=>(hGN u (by simpa using hu)).2 e⟩;have HMW:Hid (∀ {L:BL} {W:World},Loc w1 (Rest w1 (G++[])) L W→MapP W gm (xel (out.map fun q=>q.1.key))):=hZ (fun hW=>HM.out.loc hW HGD.out);have HMP:∀ (L:BL)(W:World),Loc w1 (Rest w1 (G++[])) L W→Hid (MapP W gm (xel (out.map fun q=>q.1.key))):=fun L W hW=>hZ (HM.out.loc hW HGD.out)
  have HBW:∀ (L:BL)(W:World),Loc w1 (Rest w1 (G++[])) L W→Hid (Bw w0 W):=fun L W hW=>hZ (HB.out.trans (hW.belowR _ HB.out.size (fun u hu=>(HGN.out u (by simpa using hu)).1)))
  clear hG hM hB hGN hgm hout;by_cases hlt:i<n
  ·have k4:decide ((i:Int)<(n:Int))=true:=by simp;omega
   refine Xam ?_;intro HI;have hil:i<es.length:=by rw[HEL.out];exact hlt
   have HIL:=hZ hil;have hil2:i<(es.map Prod.fst).length:=by simpa using hil
   obtain⟨ad,hA,hrd0⟩:=HW.out.s.at_ i hil2;refine Xan ?_;intro HSV
   have HRD:∀ (L:BL)(W:World),Loc w1 (Rest w1 (G++[])) L W→Hid (Rd W (some (ad.add (i*34))) es[i].1.cells):=fun L W hW=>hZ (by
    obtain⟨ad2,hA2,h2⟩:=(HW.out.s.below (HBW L W hW).out).at_ i hil2;rw[hA] at hA2;cases hA2;rw[List.getElem_map] at h2
    exact h2)
   obtain⟨⟨x,lx⟩,hx⟩:∃ x,es[i]=x:=⟨_,rfl⟩;rw[hx] at HRD;clear hA hrd0 hil2;go_upto_region 4 with fail;refine Xc1 ?_;go_upto_region 5 with fail;refine Xt ?_;refine xaa rfl _ (xaz xcq (.tmp 10) _ rfl ad n c i .i64 HSV.out rfl hlt) ?_;refine X6 ?_;refine Xc2 ?_;refine X6 ?_;refine xah zr222 rfl rfl HL ?_;clear HL;intro g6 w HL;refine X6 ?_;refine Xc3 ?_;refine X34 ?_;clear HL;intro w HL
   cases hg:x.gone with
   | true =>
    refine Xc4 ?_;intro HGO;have HCL:Hid (clr es[i]=((⟨x.key,true,Sv.nil⟩:Wrt),[])):=hZ (by rw[hx];exact xpi hg);have HSY:Hid (x.cells.set 33 Sv.nil.v=(⟨x.key,true,Sv.nil⟩:Wrt).cells):=hZ (by rw[Wrt.s_val,← hg]);clear hx;go_upto_region 6 with fail;refine Xc5 ?_;refine Xc6 ?_;refine X1z ?_;go_upto_region 7 with fail;refine Xt ?_;refine xaa rfl _ (xaf xhk _ rfl _ rfl) ?_;refine X6 ?_;refine xa3 sc25 rfl _ _ rfl HL 0 _ _ _ _ (⟨x.key,true,Sv.nil⟩:Wrt).cells Sv.nil.v rfl rfl rfl rfl (by rw[Wrt.len];decide) HSY.out ?_;refine X2t ?_;clear HL;intro w HL;obtain⟨y,hy⟩:∃ y,(⟨x.key,true,Sv.nil⟩:Wrt)=y:=⟨_,rfl⟩;obtain⟨ly,hly⟩:∃ ly,([]:LU)=ly:=⟨_,rfl⟩;rw[hy] at HL HCL;rw[hly] at HCL;clear HGO HSY hg hy hly;obtain⟨kl,hkl⟩:=key24 y.key;have HKL:=hZ hkl;clear hkl
    by_cases hin:y.key∈out.map fun q=>q.1.key
    ·skip
     obtain⟨j,hj⟩:=List.mem_iff_getElem?.1 hin;have hjo:j<out.length:=by have:=(List.getElem?_eq_some_iff.1 hj).1;simpa using this
     have HJ:=hZ hj;refine Xc7 ?_;intro HLK
     have HLK2:Hid (∀ (j':Nat)(u:Value),(xel (out.map fun q=>q.1.key))[j']? = some (.agg y.key.c.toArray,u)→Value.int .i64 (j:Int)=u∧true=true):=hZ (fun j' u h=>by
      obtain⟨h1,h2⟩:=xq7 h;have e:=xfm HND.out hj h1;subst e
      exact⟨h2.symm,rfl⟩)
     obtain⟨gG,tl,cap,rfl,rfl,hcap⟩:=HG.out.some (by omega);clear hj hin;go_upto_region 8 with fail;refine Xc8 ?_;refine X6 ?_;refine Xc9 ?_;refine Xca ?_;go_upto_region 9 with fail;refine X12 ?_;refine Xy ?_;go_upto_region 10 with fail;refine X19 ?_;refine Xcb ?_;refine Xcc ?_;refine X6 ?_;refine xff ag222 rfl _ _ rfl HL 1 gG (j*34) 222 _ _ _ rfl rfl rfl (Wrt.len _) (by rw[List.length_append,xaw Wrt.len,List.length_map];omega) (Wrt.one _) (xci Wrt.len (out.map Prod.fst) tl j y (by rw[List.length_map];exact hjo)) ?_;clear HL;intro w HL;simp only[qg,qh,qm,qn] at HL;refine X17 ?_
     have HF:Hid (LsR w0 es gm (i+1) (.slice (aS gG) out.length cap) w):=hZ (by
      have hst:xdu out (y,ly)=out.set j (y,ly):=xpm HND.out HJ.out;refine Xcd ?_;intro hB2;have hGf:=HG.out;have hMf:=HM.out;have hND:=HND.out
      have hke:((out.set j (y,ly)).map fun q=>q.1.key)=out.map fun q=>q.1.key:=by
       have h1:=xiq out (y,ly);rw[hst,if_pos (List.mem_of_getElem? HJ.out)] at h1;exact h1
      have hLd:=HL.drop [(gG,222,((out.map Prod.fst).set j y).flatMap Wrt.cells++tl)] (sB _ _);refine⟨out.set j (y,ly),[(gG,222,((out.map Prod.fst).set j y).flatMap Wrt.cells++tl)],⟨aS gG,out.length,cap⟩,rfl,by have h9:=xgu HIL.out;rw[← HOUT.out] at h9;exact(h9.trans ((congrArg (xdu out) HCL.out).trans hst)).symm,?_,?_,hB2,fun u hu=>?_,by simpa using hLd.redo (Fr.refl (fun _=>False) w) (fun _ _ f=>f),HGM.out⟩
      ·rw[List.length_set,List.map_set]
       obtain⟨h1,h2⟩:=hGf;rcases h2 with⟨h3,_⟩ | ⟨g',c',tl',h3,h4,h5,h6,h7⟩
       ·cases h3
       ·have e1:=List.head_eq_of_cons_eq h3
        simp only[Prod.mk.injEq,List.append_cancel_left_eq,true_and] at e1;injection h4 with _ _ e5;obtain⟨e2,e3⟩:=e1;subst e5;refine⟨by rw[xaw Wrt.len,List.length_set,List.length_map],.inr ⟨gG,cap,tl,rfl,rfl,h5,h6,?_⟩⟩;have e6:(out.map Prod.fst).flatMap Wrt.cells++tl=(out.map Prod.fst).flatMap Wrt.cells++tl':=by first | rw[e3] | rfl
        rw[e6] at *;rw[List.length_append,xaw Wrt.len] at h7 ⊢;rw[List.length_set];rw[e3];exact h7
      ·rw[hke];exact HMW.out HL
      ·rw[List.mem_singleton.1 hu]
       have h8:=HGN.out _ (List.mem_singleton.2 rfl)
       exact h8)
     go_upto_region 13 with fail;refine Xce ?_;go_wp2_with fail;go_roundw
     case rel=>exact⟨i+1,by omega,rfl,HF.out⟩
     case measure=>simp[intOf]<;>omega
    ·skip
     refine Xcf ?_;intro HLK;refine Xcg ?_;intro HLK2;have HNO:=hZ hin;have HSL:Hid (sv.n=out.length):=hZ HG.out.len;clear hin;go_upto_region 8 with fail;refine Xc8 ?_;refine X6 ?_;refine Xch ?_;refine Xca ?_;go_upto_region 9 with fail;refine X12 ?_;refine Xy ?_;go_upto_region 11 with fail;refine Xc8 ?_;refine Xci ?_;refine X50 ?_;intro K hK;refine Xcj ?_;intro w2 hM2 hg2;have hB2:Bw w0 w2:=(HB.out.trans (HL.belowR _ HB.out.size (fun u hu=>(HGN.out u (by simpa using hu)).1))).grown hg2 (Nat.le_trans HB.out.size HL.fr.size) (fun k hk=>by cases hk;exact HGM.out);have hL2:=(HL.less (D':=fun k=>Rest w1 (G++[]) k∧k≠gm) (fun k h=>h.1)).aside hg2 (fun h=>h.2 rfl) (fun u hu e=>(HL.own u hu).1 (by rw[e];exact HGD.out));have hne:∀ u∈(g6,222,y.cells)::(G++[]),u.1≠gm:=fun u hu e=>(HL.own u hu).1 (by rw[e];exact HGD.out)
     have HL3:=hL2.redo (Fr.refl (fun _=>False) w2) (fun _ _ f=>f)
     have HG6:Hid (w0.heap.size≤g6):=hZ (Nat.le_of_not_lt fun hlt=>(HL.own _ (.head _)).1 ⟨Nat.lt_of_lt_of_le hlt HB.out.size,fun u hu e=>by
      have h1:=(HGN.out u (by simpa using hu)).1;have e:u.1=g6:=e
      omega⟩)
     refine hK _ _ ?_;clear hK K;clear HL hL2;have HL:=HL3;have HMN:=hZ hM2;have HB3:=hZ hB2;have HNE:=hZ hne;clear HL3 hM2 hB2 hne hg2;obtain⟨w,rfl⟩:∃ w,w=w2:=⟨_,rfl⟩;refine Xck ?_;intro HDM;obtain⟨w3,rfl⟩:=eW w;go_upto_region 12 with fail;refine X12 ?_;refine Xcb ?_;refine X6 ?_;refine xb2 xcq xfn (by decide) rfl _ rfl HL _ rfl (Wrt.len _) ?_;clear HL;intro g38 w HL;refine X50 ?_;intro K hK;refine xan xcq xfn _ _ rfl [_,_] out.length sv _ HG.out HL rfl ⟨g38,0,none⟩ 1 1 y.cells rfl (Rd.of_blk0 (es:=[]) (by rw[List.append_nil];exact HL.blk (.head _))) (Wrt.len _) (Wrt.one _) (by decide) (by omega) (by omega) ?_;clear HL;intro sv' G' w hG' HL;simp only[qm,qn] at HL;refine Xaa ?_;clear hK K
     have HF:Hid (LsR w0 es gm (i+1) sv'.v w):=hZ (by
      have hst:xdu out (y,ly)=out++[(y,ly)]:=xpn HNO.out;have hLd:=HL.drop (G'++[]) (sA [_,_] _)
      have hB2:Bw w0 w:=HB3.out.trans (HL.belowR _ HB3.out.size (fun u hu=>by
       rcases List.mem_cons.1 hu with rfl | hu
       ·exact HG6.out
       ·exact(HGN.out u (by simpa using hu)).1))
      refine Xcl ?_;intro hMW hGo;refine⟨out++[(y,ly)],G',sv',rfl,by have h9:=xgu HIL.out;rw[← HOUT.out] at h9;exact(h9.trans ((congrArg (xdu out) HCL.out).trans hst)).symm,?_,?_,hB2,fun u hu=>⟨?_,fun e=>hGo u hu (by rw[e];exact HDM.out)⟩,hLd.redo (Fr.refl (fun _=>False) w) (fun _ _ f=>f),HGM.out⟩
      ·have h1:=hG'
       rw[List.map_append,List.flatMap_append,List.length_append];simpa using h1
      ·rw[List.map_append,List.map_cons,List.map_nil,xpl]
       simpa using hMW
      ·refine Nat.le_of_not_lt fun hlt=>hGo u hu ⟨Nat.lt_of_lt_of_le hlt HB3.out.size,fun z hz e=>?_⟩
       rcases List.mem_cons.1 hz with rfl | hz
       ·have h9:=HG6.out
        have e:g6=u.1:=e;omega
       ·have h9:=(HGN.out z (by simpa using hz)).1
        omega)
     go_upto_region 13 with fail;refine Xce ?_;go_wp2_with fail;go_roundw
     case rel=>exact⟨i+1,by omega,rfl,HF.out⟩
     case measure=>simp[intOf]<;>omega
   | false =>
    refine Xcm ?_;intro HGO;have HCL:Hid (clr es[i]=(x,lx)):=hZ (by rw[hx];exact xpj hg);clear hx hg;go_upto_region 6 with fail;refine Xc5 ?_;refine Xcn ?_;refine X1z ?_;obtain⟨y,rfl⟩:∃ y,y=x:=⟨_,rfl⟩;obtain⟨ly,rfl⟩:∃ ly,ly=lx:=⟨_,rfl⟩;obtain⟨kl,hkl⟩:=key24 y.key;have HKL:=hZ hkl;clear hkl;by_cases hin:y.key∈out.map fun q=>q.1.key
    ·skip
     obtain⟨j,hj⟩:=List.mem_iff_getElem?.1 hin;have hjo:j<out.length:=by have:=(List.getElem?_eq_some_iff.1 hj).1;simpa using this
     have HJ:=hZ hj;refine Xc7 ?_;intro HLK
     have HLK2:Hid (∀ (j':Nat)(u:Value),(xel (out.map fun q=>q.1.key))[j']? = some (.agg y.key.c.toArray,u)→Value.int .i64 (j:Int)=u∧true=true):=hZ (fun j' u h=>by
      obtain⟨h1,h2⟩:=xq7 h;have e:=xfm HND.out hj h1;subst e
      exact⟨h2.symm,rfl⟩)
     obtain⟨gG,tl,cap,rfl,rfl,hcap⟩:=HG.out.some (by omega);clear hj hin;go_upto_region 8 with fail;refine Xc8 ?_;refine X6 ?_;refine Xc9 ?_;refine Xca ?_;go_upto_region 9 with fail;refine X12 ?_;refine Xy ?_;go_upto_region 10 with fail;refine X19 ?_;refine Xcb ?_;refine Xcc ?_;refine X6 ?_;refine xff ag222 rfl _ _ rfl HL 1 gG (j*34) 222 _ _ _ rfl rfl rfl (Wrt.len _) (by rw[List.length_append,xaw Wrt.len,List.length_map];omega) (Wrt.one _) (xci Wrt.len (out.map Prod.fst) tl j y (by rw[List.length_map];exact hjo)) ?_;clear HL;intro w HL;simp only[qg,qh,qm,qn] at HL;refine X17 ?_
     have HF:Hid (LsR w0 es gm (i+1) (.slice (aS gG) out.length cap) w):=hZ (by
      have hst:xdu out (y,ly)=out.set j (y,ly):=xpm HND.out HJ.out;refine Xcd ?_;intro hB2;have hGf:=HG.out;have hMf:=HM.out;have hND:=HND.out
      have hke:((out.set j (y,ly)).map fun q=>q.1.key)=out.map fun q=>q.1.key:=by
       have h1:=xiq out (y,ly);rw[hst,if_pos (List.mem_of_getElem? HJ.out)] at h1;exact h1
      have hLd:=HL.drop [(gG,222,((out.map Prod.fst).set j y).flatMap Wrt.cells++tl)] (sB _ _);refine⟨out.set j (y,ly),[(gG,222,((out.map Prod.fst).set j y).flatMap Wrt.cells++tl)],⟨aS gG,out.length,cap⟩,rfl,by have h9:=xgu HIL.out;rw[← HOUT.out] at h9;exact(h9.trans ((congrArg (xdu out) HCL.out).trans hst)).symm,?_,?_,hB2,fun u hu=>?_,by simpa using hLd.redo (Fr.refl (fun _=>False) w) (fun _ _ f=>f),HGM.out⟩
      ·rw[List.length_set,List.map_set]
       obtain⟨h1,h2⟩:=hGf;rcases h2 with⟨h3,_⟩ | ⟨g',c',tl',h3,h4,h5,h6,h7⟩
       ·cases h3
       ·have e1:=List.head_eq_of_cons_eq h3
        simp only[Prod.mk.injEq,List.append_cancel_left_eq,true_and] at e1;injection h4 with _ _ e5;obtain⟨e2,e3⟩:=e1;subst e5;refine⟨by rw[xaw Wrt.len,List.length_set,List.length_map],.inr ⟨gG,cap,tl,rfl,rfl,h5,h6,?_⟩⟩;have e6:(out.map Prod.fst).flatMap Wrt.cells++tl=(out.map Prod.fst).flatMap Wrt.cells++tl':=by first | rw[e3] | rfl
        rw[e6] at *;rw[List.length_append,xaw Wrt.len] at h7 ⊢;rw[List.length_set];rw[e3];exact h7
      ·rw[hke];exact HMW.out HL
      ·rw[List.mem_singleton.1 hu]
       have h8:=HGN.out _ (List.mem_singleton.2 rfl)
       exact h8)
     go_upto_region 13 with fail;refine Xce ?_;go_wp2_with fail;go_roundw
     case rel=>exact⟨i+1,by omega,rfl,HF.out⟩
     case measure=>simp[intOf]<;>omega
    ·skip
     refine Xcf ?_;intro HLK;refine Xcg ?_;intro HLK2;have HNO:=hZ hin;have HSL:Hid (sv.n=out.length):=hZ HG.out.len;clear hin;go_upto_region 8 with fail;refine Xc8 ?_;refine X6 ?_;refine Xch ?_;refine Xca ?_;go_upto_region 9 with fail;refine X12 ?_;refine Xy ?_;go_upto_region 11 with fail;refine Xc8 ?_;refine Xci ?_;refine X50 ?_;intro K hK;refine Xcj ?_;intro w2 hM2 hg2;have hB2:Bw w0 w2:=(HB.out.trans (HL.belowR _ HB.out.size (fun u hu=>(HGN.out u (by simpa using hu)).1))).grown hg2 (Nat.le_trans HB.out.size HL.fr.size) (fun k hk=>by cases hk;exact HGM.out);have hL2:=(HL.less (D':=fun k=>Rest w1 (G++[]) k∧k≠gm) (fun k h=>h.1)).aside hg2 (fun h=>h.2 rfl) (fun u hu e=>(HL.own u hu).1 (by rw[e];exact HGD.out));have hne:∀ u∈(g6,222,y.cells)::(G++[]),u.1≠gm:=fun u hu e=>(HL.own u hu).1 (by rw[e];exact HGD.out)
     have HL3:=hL2.redo (Fr.refl (fun _=>False) w2) (fun _ _ f=>f)
     have HG6:Hid (w0.heap.size≤g6):=hZ (Nat.le_of_not_lt fun hlt=>(HL.own _ (.head _)).1 ⟨Nat.lt_of_lt_of_le hlt HB.out.size,fun u hu e=>by
      have h1:=(HGN.out u (by simpa using hu)).1;have e:u.1=g6:=e
      omega⟩)
     refine hK _ _ ?_;clear hK K;clear HL hL2;have HL:=HL3;have HMN:=hZ hM2;have HB3:=hZ hB2;have HNE:=hZ hne;clear HL3 hM2 hB2 hne hg2;obtain⟨w,rfl⟩:∃ w,w=w2:=⟨_,rfl⟩;refine Xck ?_;intro HDM;obtain⟨w3,rfl⟩:=eW w;go_upto_region 12 with fail;refine X12 ?_;refine Xcb ?_;refine X6 ?_;refine xb2 xcq xfn (by decide) rfl _ rfl HL _ rfl (Wrt.len _) ?_;clear HL;intro g38 w HL;refine X50 ?_;intro K hK;refine xan xcq xfn _ _ rfl [_,_] out.length sv _ HG.out HL rfl ⟨g38,0,none⟩ 1 1 y.cells rfl (Rd.of_blk0 (es:=[]) (by rw[List.append_nil];exact HL.blk (.head _))) (Wrt.len _) (Wrt.one _) (by decide) (by omega) (by omega) ?_;clear HL;intro sv' G' w hG' HL;simp only[qm,qn] at HL;refine Xaa ?_;clear hK K
     have HF:Hid (LsR w0 es gm (i+1) sv'.v w):=hZ (by
      have hst:xdu out (y,ly)=out++[(y,ly)]:=xpn HNO.out;have hLd:=HL.drop (G'++[]) (sA [_,_] _)
      have hB2:Bw w0 w:=HB3.out.trans (HL.belowR _ HB3.out.size (fun u hu=>by
       rcases List.mem_cons.1 hu with rfl | hu
       ·exact HG6.out
       ·exact(HGN.out u (by simpa using hu)).1))
      refine Xcl ?_;intro hMW hGo;refine⟨out++[(y,ly)],G',sv',rfl,by have h9:=xgu HIL.out;rw[← HOUT.out] at h9;exact(h9.trans ((congrArg (xdu out) HCL.out).trans hst)).symm,?_,?_,hB2,fun u hu=>⟨?_,fun e=>hGo u hu (by rw[e];exact HDM.out)⟩,hLd.redo (Fr.refl (fun _=>False) w) (fun _ _ f=>f),HGM.out⟩
      ·have h1:=hG'
       rw[List.map_append,List.flatMap_append,List.length_append];simpa using h1
      ·rw[List.map_append,List.map_cons,List.map_nil,xpl]
       simpa using hMW
      ·refine Nat.le_of_not_lt fun hlt=>hGo u hu ⟨Nat.lt_of_lt_of_le hlt HB3.out.size,fun z hz e=>?_⟩
       rcases List.mem_cons.1 hz with rfl | hz
       ·have h9:=HG6.out
        have e:g6=u.1:=e;omega
       ·have h9:=(HGN.out z (by simpa using hz)).1
        omega)
     go_upto_region 13 with fail;refine Xce ?_;go_wp2_with fail;go_roundw
     case rel=>exact⟨i+1,by omega,rfl,HF.out⟩
     case measure=>simp[intOf]<;>omega
  ·have k4:decide ((i:Int)<(n:Int))=false:=by simp;omega
   have hin:i=n:=by omega
   have HFO:Hid (out=lstW es):=hZ (by rw[HOUT.out,List.take_of_length_le (by have:=HEL.out;omega)]);clear hlt
   have HLF:Hid (∀ (es':List WE)(v:Sv)(w':World),es'.Perm out→Srt Wrt.ky (es'.map Prod.fst)→Bw w0 w'→Rd w' v.A ((es'.map Prod.fst).flatMap Wrt.cells)→es'.length=v.n→v.n≤v.c→(∀ ad,v.A=some ad→w0.heap.size≤ad.block)→LastO D w0 es (.returned v.v) w'):=hZ (fun es' v w' hp hs hb hr hl hc hf=>by
    have hnd:(es'.map fun q=>q.1.key).Nodup:=(hp.map _).nodup_iff.2 HND.out
    have hsub:∀ q∈es',∃ (i:Nat)(hi:i<es.length),q=clr es[i]:=fun q hq=>by
     have h1:=hp.subset hq;rw[HFO.out] at h1;obtain⟨e0,h2,h3⟩:=lstW_mem es q h1;obtain⟨i,hi,h4⟩:=List.getElem_of_mem h2;exact⟨i,hi,by rw[h4];exact h3⟩
    have htx:∀ q∈es',Tx w' q.1.val.A q.1.val.n q.1.val.c q.2∧(q.2≠[]→∀ ad,q.1.val.A=some ad→¬ D ad.block):=fun q hq=>by
     obtain⟨i,hi,rfl⟩:=hsub q hq
     cases hg:es[i].1.gone with
     | true=>rw[xpi hg];exact⟨tx_nil w',fun h=>absurd rfl h⟩
     | false =>
      rw[xpj hg];have h1:=HW.out.tx i (by simpa using hi);have h2:=HW.out.dv i (by simpa using hi);simp only[List.getElem_map,List.getD_eq_getElem?_getD,List.getElem?_map,List.getElem?_eq_getElem hi,Option.map_some,qe] at h1 h2;exact⟨h1.below hb,h2⟩
    refine⟨v,es',rfl,⟨⟨hr,by simpa using hl,hc⟩,by simp,fun i hi=>?_,fun hne ad e hk=>?_,fun i hi hne=>?_⟩,rise_of hs hnd,fun k o=>?_,?_,hb,hf⟩
    ·have hi2:i<es'.length:=by simpa using hi
     have:=(htx _ (List.getElem_mem hi2)).1;simpa[List.getD_eq_getElem?_getD,List.getElem?_map,List.getElem?_eq_getElem hi2] using this
    ·have h1:=HDD.out _ hk
     have h2:=hf ad e;omega
    ·have hi2:i<es'.length:=by simpa using hi
     have:=(htx _ (List.getElem_mem hi2)).2;simp only[List.getD_eq_getElem?_getD,List.getElem?_map,List.getElem?_eq_getElem hi2,Option.map_some,qe,List.getElem_map] at hne ⊢;exact this hne
    ·rw[← xur,← HFO.out]
     exact(hp.map pw).mem_iff
    ·rw[hp.length_eq,HFO.out];exact xpk es)
   go_upto_region 4 with fail;refine Xc1 ?_;have hol:out.length≤12:=by omega
   rcases HG.out with⟨hl,⟨rfl,rfl,h0⟩ | ⟨gG,cap,tl,rfl,rfl,hcap,_⟩⟩
   ·have CS:Hid (Calls prog 229 #[Sv.nil.v,.func (.func 230) #[] #[]] w1 fun e w'=>e=.returned (.tuple #[])∧w1=w'):=hZ (sort0_w w1)
    have e0:out = []:=List.eq_nil_of_length_eq_zero h0;clear hl h0;go_upto_region 14 with fail;refine X1v ?_;intro K hK;refine xad cf229 rfl _ rfl ?_;refine Xco ?_;rintro e w ⟨rfl,rfl⟩;refine X20 ?_;clear hK K;go_upto_region 15 with fail;refine X7v ?_;go_wp2_with fail;go_ret;exact HLF.out [] Sv.nil w1 (by rw[e0]) List.Pairwise.nil HB.out (Rd.nil _ _) rfl (Nat.le_refl _) (fun ad e=>by cases e)
   ·have CS:Hid (Calls prog 229 #[(⟨aS gG,out.length,cap⟩:Sv).v,.func (.func 230) #[] #[]] w1 fun e w'=>e=.returned (.tuple #[])∧∃ ws',ws'.Perm (out.map Prod.fst)∧Srt Wrt.ky ws'∧Blk w' gG 222 (ws'.flatMap Wrt.cells++tl)∧Fr (· = gG) w1 w'):=hZ (sort_w gG out.length cap (out.map Prod.fst) tl w1 (by simpa using HL.blk (.head _)) (by simp) hcap hol)
    clear hl;go_upto_region 14 with fail;refine X1v ?_;intro K hK;refine xad cf229 rfl _ rfl ?_;refine Xco ?_;rintro e w ⟨rfl,ws',hp,hs,hb,hf⟩;have HLn:=HL.putF (i:=0) rfl hb hf;have HB2:Hid (Bw w0 w):=hZ (HB.out.trans (HLn.belowR _ HB.out.size (fun u hu=>(HGN.out u (by simpa using hu)).1)));clear HL hf;have HL:=HLn;clear HLn;simp only[qg,qm,qn] at HL;refine X20 ?_;clear hK K;go_upto_region 15 with fail;refine X7v ?_;go_wp2_with fail;go_ret;obtain⟨es',hp2,hm2⟩:=xmg Prod.fst ws' out hp;subst hm2;refine HLF.out es' ⟨aS gG,out.length,cap⟩ w hp2 hs HB2.out (Rd.of_blk0 hb) hp2.length_eq hcap (fun ad e=>?_);cases e;exact(HGN.out _ (List.mem_singleton.2 rfl)).1
theorem xcc{P:Program}{T E:TypeId}{z b:Nat}{zv:Value}{w0 w:World}{D:Nat→Prop}{L:BL}{o:Oper}{a:Act}{K:Act→World→Prop}{Q:Exit→Act→World→Prop}(B:ST P T E z)(I:ET P E zv z b)(hz:z≤10000)(x:Operand)(ho:o.op=.buildSlice T 1 #[(0,x)])(H:Loc w0 D L w)(cs:List Value)(hx:a.eval x=.agg cs.toArray)(hl:cs.length=z)
  (h:∀ g w',Loc w0 D ((g,E,cs)::L) w'→K (a.put o.dst (.slice (aS g) 1 1)) w'):o.wp P a w K Q:=xif B I hz x ho cs hx hl (h _ _ (H.new E cs))
abbrev PE:=Par×LU
structure PrT (w:World)(v:Sv)(ps:List PE):Prop where
 rd:Rd w v.A ((ps.map Prod.fst).flatMap Par.cells)
 len:ps.length=v.n
 cap:v.n≤v.c
 tx:∀ p∈ps,Tx w p.1.val.A p.1.val.n p.1.val.c p.2
def toW(p:PE):WE:=(⟨p.1.key,false,p.1.val⟩,p.2)
def gv(e:WE):Option Ent:=if e.1.gone then none else some (e.1.key,e.2)
def entP(p:PE):Ent:=(p.1.key,p.2)
theorem PrT.below{w w':World}{v:Sv}{ps:List PE}(h:PrT w v ps)(hb:Bw w w'):PrT w' v ps:=⟨h.rd.below hb,h.len,h.cap,fun p hp=>(h.tx p hp).below hb⟩
theorem PrT.at_{w:World}{v:Sv}{ps:List PE}(h:PrT w v ps)(i:Nat)(hi:i<ps.length):∃ ad,v.A=some ad∧Rd w (some (ad.add (i*33))) ps[i].1.cells:=by
 have hl:(ps.map Prod.fst).length=ps.length:=by simp
 obtain⟨ad,e,_⟩:=h.rd (by rw[xaw Par.len];omega);refine⟨ad,e,?_⟩;have h2:=h.rd.cut (i*33) 33;rw[e] at h2;have h3:=xcb (f:=Par.cells) Par.len (ps.map Prod.fst) [] i (by omega);rw[List.append_nil] at h3;rw[h3,List.getElem_map] at h2;exact h2
structure OvG (w w':World)(all:List WE)(v:Sv)(qs:List PE):Prop where
 pr:PrT w' v qs
 fA:∀ ad,v.A=some ad→w.heap.size≤ad.block
 fT:∀ q∈qs,∀ ad,q.1.val.A=some ad→w.heap.size≤ad.block
 rise:qs.Pairwise fun p q=>nOf p.1.key.l<nOf q.1.key.l
 spec:∀ k t,(k,t)∈qs.map entP↔xct (all.map pw) k=some (some t)
 len:qs.length≤all.length
 bel:Bw w w'
def OvO(w:World)(all:List WE)(e:Ending)(w':World):Prop:=∃ v qs,e=.returned (Sv.v v)∧OvG w w' all v qs
theorem gv_spec(es:List WE)(k:D32)(t:LU):(k,t)∈es.filterMap gv↔(k,some t)∈es.map pw:=by
 rw[List.mem_filterMap,List.mem_map];constructor
 ·rintro⟨e,he,h⟩
  refine⟨e,he,?_⟩;unfold gv at h;unfold pw
  split at h
  ·cases h
  ·next hg =>
   rw[if_neg hg];injection h with h;injection h with h1 h2;rw[h1,h2]
 ·rintro⟨e,he,h⟩
  refine⟨e,he,?_⟩;unfold pw at h;unfold gv;injection h with h1 h2
  split at h2
  ·cases h2
  ·next hg =>
   rw[if_neg hg];injection h2 with h2;rw[h1,h2]
theorem bs222:BS prog 222 Wrt.z.cells [(0,32),(32,1),(33,1)]:=BS.of underlying222 (by kernel_rfl) (by kernel_rfl)
theorem bd222_02(x0:D32)(x1:Sv):Instr.fill (fun x=>[(0,32),(32,1),(33,1)].toArray[x]?) Wrt.z.cells.toArray [(0,.agg x0.c.toArray),(2,x1.v)]=some ((⟨x0,false,x1⟩:Wrt)).cells.toArray:=by
 rw[show Wrt.z=(⟨D32.z,false,Sv.nil⟩:Wrt) from rfl];refine xaj (vs:=x0.c) rfl (rfl) (D32.cl _) (by rw[Wrt.len];decide) ?_;rw[Wrt.s_key];refine xaj (vs:=[x1.v]) rfl (rfl) (rfl) (by rw[Wrt.len];decide) ?_;rw[xbg _ _ _ (by rw[Wrt.len];decide)];rw[show(⟨x0,false,Sv.nil⟩:Wrt).cells.set 33 (x1.v)=(⟨x0,false,x1⟩:Wrt).cells from Wrt.s_val (⟨x0,false,Sv.nil⟩:Wrt) (x1)];rfl
theorem WriT.free{D:Nat→Prop}{w:World}{A:Option Addr}{n c:Nat}{ws:List Wrt}{ls:List LU}(h:WriT D w A n c ws ls):WriT (fun _=>False) w A n c ws ls :=
 ⟨h.s,h.len,h.tx,fun _ _ _ f=>f,fun _ _ _ _ _ f=>f⟩
theorem xjb(w:World)(mv:Sv)(ps:List PE)(hp:PrT w mv ps)(A:Option Addr)(n c:Nat)(es:List WE)(h:WriT (fun _=>False) w A n c (es.map Prod.fst) (es.map Prod.snd))(hn:ps.length+n≤12)(hbg:∀ e∈ps.map toW++es,e.1.gone=false→e.2.length≤1048576) :
  Calls prog 225 #[mv.v,.slice A n c] w (OvO w (ps.map toW++es)):=by
 have hel:es.length=n:=by have:=h.s.len;simpa using this
 have HW:=hZ h;have HP:=hZ hp;have HEL:=hZ hel;have HPL:Hid (mv.n=ps.length):=hZ hp.len.symm;have HBA:=hZ hbg;clear h hel hp hbg;obtain⟨w0,rfl,HL⟩:=lS w;go_enter func225,ntmps225;go_upto_region 0 with fail;refine X1j ?_;go_upto_region 1 with fail;refine X1j ?_;go_upto_region 2 with fail;refine X12 ?_;refine xaa rfl _ (xam underlying55 _ rfl mv ps.length rfl HPL.out) ?_;refine X1e ?_;go_wp2_with fail
 go_loopw [5,13] (fun v z wr=>∃ (i:Nat)(G:BL)(sv:Sv),i≤ps.length∧v=sv.v∧z=.int .i64 (i:Int)∧Gw 222 34 G sv i (((ps.take i).map fun p=>(toW p).1).flatMap Wrt.cells)∧Loc w0 (Old w0) (G++[]) wr) (fun _ z _=>(ps.length - intOf z).toNat)
 case atStart=>exact⟨0,[],Sv.nil,Nat.zero_le _,rfl,rfl,Gw.nil 222 34,HL⟩
 case round=>as_aux_lemma =>
  clear HL;obtain⟨i,G,sv,hi,rfl,rfl,hG,HL⟩:=hrel;obtain⟨w,rfl⟩:=eW wr;by_cases hlt:i<ps.length
  ·have k4:decide ((i:Int)<(ps.length:Int))=true:=by simp;omega
   refine Xam ?_;intro HI;obtain⟨ad,hA,hrd0⟩:=HP.out.at_ i hlt;have HSV:Hid (mv.v=.slice (some ad) mv.n mv.c):=hZ (by unfold Sv.v;rw[hA]);have HRD:∀ (L:BL)(W:World),Loc w0 (Old w0) L W→Hid (Rd W (some (ad.add (i*33))) ps[i].1.cells):=fun L W hW=>hZ (hrd0.below hW.below)
   have HTK:Hid (((ps.take (i+1)).map fun p=>(toW p).1)=((ps.take i).map fun p=>(toW p).1)++[(toW ps[i]).1]):=hZ (by rw[List.take_succ_eq_append_getElem hlt,List.map_append];rfl);have hin:i<mv.n:=by rw[HPL.out];exact hlt
   clear hA hrd0;obtain⟨⟨x,lx⟩,hx⟩:∃ x,ps[i]=x:=⟨_,rfl⟩;rw[hx] at HRD HTK;clear hx;go_upto_region 3 with fail;refine Xc1 ?_;go_upto_region 4 with fail;refine Xt ?_;refine xaa rfl _ (xaz sl55 (.tmp 11) _ rfl ad mv.n mv.c i .i64 HSV.out rfl hin) ?_;refine X6 ?_;refine Xcp ?_;refine X6 ?_;refine xah zr61 rfl rfl HL ?_;clear HL;intro g7 w HL;refine X6 ?_;refine Xcq ?_;refine X34 ?_;clear HL;intro w HL;go_upto_region 5 with fail;refine X12 ?_;refine Xcr ?_;refine X6 ?_;refine Xcs ?_;refine X6 ?_;refine Xct ?_;refine X6 ?_;refine Xcu ?_;refine X6 ?_;refine Xcv ?_;refine X6 ?_;refine xb2 xcq xfn (by decide) rfl _ rfl HL _ rfl (Wrt.len _) ?_;clear HL;intro g23 w HL;refine X50 ?_;intro K hK
   refine xan xcq xfn _ _ rfl [_,_] i sv _ hG HL rfl ⟨g23,0,none⟩ 1 1 (⟨x.key,false,x.val⟩:Wrt).cells rfl (Rd.of_blk0 (es:=[]) (by rw[List.append_nil];exact HL.blk (.head _))) (Wrt.len _) (Wrt.one _) (by decide) (by omega) (by omega) ?_;clear HL;intro sv' G' w hG' HL;refine Xcw ?_;clear hK K;intro HLd;have HG':=hZ hG';clear HL hG hG';have HL:=HLd;clear HLd;go_upto_region 6 with fail;refine Xce ?_;go_wp2_with fail;go_roundw
   case rel=>exact⟨i+1,G',sv',by omega,rfl,rfl,by rw[HTK.out,List.flatMap_append];simpa[toW] using HG'.out,HL⟩
   case measure=>simp[intOf]<;>omega
  ·have k4:decide ((i:Int)<(ps.length:Int))=false:=by simp;omega
   have hin:i=ps.length:=by omega
   subst hin;rw[List.take_length] at hG;clear hlt;go_upto_region 3 with fail;refine Xc1 ?_;go_upto_region 7 with fail;refine X1j ?_;obtain⟨all,hall⟩:∃ all,ps.map toW++es=all:=⟨_,rfl⟩;have HALL:=hZ hall;have HAL:Hid (all.length=ps.length+n):=hZ (by rw[← hall,List.length_append,List.length_map,HEL.out]);have HAF:Hid (((ps.map fun p=>(toW p).1).flatMap Wrt.cells)++(es.map Prod.fst).flatMap Wrt.cells=(all.map Prod.fst).flatMap Wrt.cells):=hZ (by rw[← hall,List.map_append,List.flatMap_append,List.map_map];rfl)
   have HTA:Hid (∀ e∈all,Tx w0 e.1.val.A e.1.val.n e.1.val.c e.2):=hZ (fun e he=>by
    rw[← hall] at he;rcases List.mem_append.1 he with he | he
    ·obtain⟨p,hp,rfl⟩:=List.mem_map.1 he
     exact HP.out.tx p hp
    ·obtain⟨j,hj,rfl⟩:=List.getElem_of_mem he
     have h1:=HW.out.tx j (by simpa using hj)
     simpa[List.getD_eq_getElem?_getD,List.getElem?_map,List.getElem?_eq_getElem hj] using h1)
   rw[hall];clear hall;go_upto_region 8 with fail;refine X2j ?_;intro K hK
   refine xbh xcq xfn _ _ rfl [] ps.length sv _ hG HL rfl A n c ((es.map Prod.fst).flatMap Wrt.cells) rfl (HW.out.s.rd.below HL.below) (by rw[xaw Wrt.len,List.length_map,HEL.out]) (fun u hu=>by
    obtain⟨x,_,hx⟩:=List.mem_flatMap.1 hu
    exact Wrt.one x u hx) (by omega) (by omega) ?_
   clear HL hG;intro sv2 G2 w hG2 HL;refine hK _ _ ?_;clear hK K;rw[HAF.out] at hG2;have HB1:=hZ HL.below
   have CLa:Hid (Calls prog 187 #[sv2.v] w (LastO (fun _=>False) w all)):=hZ (xnq (fun _=>False) w sv2.A sv2.n sv2.c all ⟨⟨hG2.rd (L0:=[]) HL,by rw[List.length_map,HAL.out];exact hG2.len.symm,hG2.cap.1⟩,by simp,fun i hi=>by
    have hi2:i<all.length:=by simpa using hi
    have h1:=(HTA.out _ (List.getElem_mem hi2)).below HB1.out
    simpa[List.getD_eq_getElem?_getD,List.getElem?_map,List.getElem?_eq_getElem hi2] using h1,fun _ _ _ f=>f,fun _ _ _ _ _ f=>f⟩ (by rw[hG2.len];exact hn) (fun k f=>f.elim))
   clear hG2;refine Xu ?_;refine X1u ?_;intro K hK;refine xad cf187 rfl _ rfl ?_;refine X1w ?_;(with_reducible refine(CLa.out).mono ?_);rintro e w ⟨v3,es3,rfl,hW3,hR3,hS3,hL3,hb3,hf3⟩;have HB:=hZ (HB1.out.trans (hb3.mono HL.fr.size));have HF3:Hid (∀ ad,v3.A=some ad→w0.heap.size≤ad.block):=hZ (fun ad e=>Nat.le_trans HL.fr.size (hf3 ad e));have HLn:=(HL.drop [] (List.nil_sublist _)).after hb3;clear HL hb3 hf3 CLa HB1;have HL:=HLn;clear HLn;have HW3:=hZ hW3;have HR3:=hZ hR3;have HS3:=hZ hS3;have HL3:=hZ hL3;have HN3:Hid (v3.n=es3.length):=hZ (by have:=hW3.s.len;simpa using this.symm);clear hW3 hR3 hS3 hL3;refine X5k ?_;clear hK K;refine xaa rfl _ (xam underlying220 _ rfl v3 es3.length rfl HN3.out) ?_;refine X1e ?_;obtain⟨w1,rfl⟩:=eW w
   have HBG:Hid (∀ e∈es3,e.1.gone=false→e.2.length≤1048576):=hZ (fun e he hg=>by
    have h1:pw e∈es3.map pw:=List.mem_map_of_mem he;have h2:pw e=(e.1.key,some e.2):=by unfold pw;rw[hg];rfl
    rw[h2,HS3.out] at h1;obtain⟨e1,h3,h4⟩:=List.mem_map.1 (xir _ h1);unfold pw at h4;injection h4 with _ h5
    split at h5
    ·cases h5
    ·next hg1 =>
     injection h5 with h5;rw[← h5];rw[← HALL.out] at h3
     exact HBA.out e1 h3 (by simpa using hg1))
   have hlt3:es3.length≤12:=by have h1:=HL3.out;have h2:=HAL.out;omega
   go_wp2_with fail
   go_loopw [8,31] (fun v z wr=>∃ (i:Nat)(qs:List PE)(G GV:BL)(sv:Sv),i≤es3.length∧v=sv.v∧z=.int .i64 (i:Int)∧qs.length≤i∧Gw 61 33 G sv qs.length ((qs.map Prod.fst).flatMap Par.cells)∧Gws GV (qs.map fun q=>q.1.val) (qs.map Prod.snd)∧qs.map entP=(es3.take i).filterMap gv∧Loc w1 (Rest w1 []) (G++(GV++[])) wr) (fun _ z _=>(es3.length - intOf z).toNat)
   case atStart=>exact⟨0,[],[],[],Sv.nil,Nat.zero_le _,rfl,rfl,Nat.le_refl _,Gw.nil 61 33,.nil,rfl,HL⟩
   case round=>as_aux_lemma =>
    clear HL HW HP;obtain⟨i,qs,G,GV,sv,hi,rfl,rfl,hql,hG,hGV,hqs,HL⟩:=hrel;obtain⟨w,rfl⟩:=eW wr;have HQS:=hZ hqs;clear hqs;by_cases hlt:i<es3.length
    ·have k4:decide ((i:Int)<(es3.length:Int))=true:=by simp;omega
     refine Xam ?_;intro HI;have hil2:i<(es3.map Prod.fst).length:=by simpa using hlt
     obtain⟨ad,hA,hrd0⟩:=HW3.out.s.at_ i hil2;rw[List.getElem_map] at hrd0;have HSV:Hid (v3.v=.slice (some ad) v3.n v3.c):=hZ (by unfold Sv.v;rw[hA]);have HRD:∀ (L:BL)(W:World),Loc w1 (Rest w1 []) L W→Hid (Rd W (some (ad.add (i*34))) es3[i].1.cells):=fun L W hW=>hZ (hrd0.keepE hW (fun hne ad2 e=>⟨hrd0.lt hne e,fun x hx=>by cases hx⟩))
     have htx0:=HW3.out.tx i hil2;simp only[List.getElem_map,List.getD_eq_getElem?_getD,List.getElem?_map,List.getElem?_eq_getElem hlt,Option.map_some,qe] at htx0;have HTX:∀ (L:BL)(W:World),Loc w1 (Rest w1 []) L W→Hid (Tx W es3[i].1.val.A es3[i].1.val.n es3[i].1.val.c es3[i].2):=fun L W hW=>hZ ⟨htx0.len,htx0.cap,htx0.max,htx0.rd.keepE hW (fun hne ad2 e=>⟨htx0.rd.lt hne e,fun x hx=>by cases hx⟩),fun _ _ h=>h⟩
     have HTK:Hid ((es3.take (i+1)).filterMap gv=(es3.take i).filterMap gv++(gv es3[i]).toList):=hZ (by rw[List.take_succ_eq_append_getElem hlt,List.filterMap_append];congr 1);have HTM:Hid (es3[i].2.length≤maxLen):=hZ (by have h1:=htx0.len;have h2:=htx0.cap;have h3:=htx0.max;omega);have hbig:Hid (es3[i].1.gone=false→es3[i].2.length≤1048576):=hZ (HBG.out _ (List.getElem_mem hlt));have hin:i<v3.n:=by rw[HN3.out];exact hlt
     clear hA hrd0 hil2 htx0;obtain⟨⟨x,lx⟩,hx⟩:∃ x,es3[i]=x:=⟨_,rfl⟩;rw[hx] at HRD HTX HTK HTM hbig;clear hx;go_upto_region 9 with fail;refine Xc1 ?_;go_upto_region 10 with fail;refine Xt ?_;refine xaa rfl _ (xaz xcq (.tmp 29) _ rfl ad v3.n v3.c i .i64 HSV.out rfl hin) ?_;refine X6 ?_;refine Xc2 ?_;refine X6 ?_;refine xah zr222 rfl rfl HL ?_;clear HL;intro g10 w HL;refine X6 ?_;refine Xc3 ?_;refine X34 ?_;clear HL;intro w HL
     cases hg:x.gone with
     | true =>
      refine Xc4 ?_;intro HGO;have HGV:Hid (gv (x,lx)=none):=hZ (by unfold gv;rw[if_pos hg]);clear hg;go_upto_region 11 with fail;refine Xc5 ?_;refine Xc6 ?_;refine X28 ?_;have HLd:=HL.drop (G++(GV++[])) (sB _ _);clear HL;have HL:=HLd;clear HLd;go_upto_region 13 with fail;refine Xce ?_;go_wp2_with fail;go_roundw
      case rel=>exact⟨i+1,qs,G,GV,sv,by omega,rfl,rfl,by omega,hG,hGV,by rw[HTK.out,HGV.out,HQS.out];simp,HL⟩
      case measure=>simp[intOf]<;>omega
     | false =>
      refine Xcm ?_;intro HGO;have HB9:lx.length≤1048576:=hbig.out hg;have HGV:Hid (gv (x,lx)=some (x.key,lx)):=hZ (by unfold gv;rw[if_neg (by rw[hg];decide)]);clear hg;go_upto_region 11 with fail;refine Xc5 ?_;refine Xcn ?_;refine X28 ?_;have HX:=(HL.perm (L':=((g10,222,x.cells)::(G++GV))++([]++[])) (by simp)).drew;have HL2:=HL.drop [(g10,222,x.cells)] (by simp);have HTL:=hZ (HTX _ _ HX).out.len;clear HL;have HL:=HL2;clear HL2;go_upto_region 12 with fail;refine rB (Loc.P HL) [] [5,7,8] [0,1,2,3,4,5,6,7,8,9] 0 ?_;refine X3c ?_;intro HL;refine xab rfl rfl HL (fun W hW=>xaf xhj _ rfl _ rfl) ?_;refine X6 ?_;refine xab rfl rfl HL (fun W hW=>xav ag24 hW _ rfl _ _ rfl _ _ _ (.head _) (Wrt.g_key _) (D32.cl _)) ?_;refine X6 ?_;refine xab rfl rfl HL (fun W hW=>xaf xhk _ rfl _ rfl) ?_
      refine X6 ?_;refine xab rfl rfl HL (fun W hW=>xai sc25 hW _ rfl _ _ rfl _ _ _ (.head _) (Wrt.g_val _)) ?_;refine Xh ?_;intro K hK;refine xbh sl25 el5 _ _ rfl ((g10,222,x.cells)::(G++GV)) 0 Sv.nil [] (Gw.nil 5 1) HX rfl x.val.A x.val.n x.val.c (bvs lx) rfl (HTX _ _ HX).out.rd (by rw[xae,Nat.mul_one];exact HTL.out) (xb0 _) (by have h1:lx.length=x.val.n:=HTL.out;omega) (by have h1:lx.length=x.val.n:=HTL.out;omega) ?_;clear HX HL;intro sv5 G5 w hG5 HX;rw[List.nil_append,Nat.zero_add,← HTL.out] at hG5;have HL:=HX.drop [(g10,222,x.cells)] (by simp);refine X3x ?_;clear hK K;refine xab rfl rfl HL (fun W hW=>xbp bs61 _ rfl _ (by exact xnj x.key sv5)) ?_;refine Xh ?_;intro K hK;refine xcc sl55 el61 (by decide) _ rfl HX (⟨x.key,sv5⟩:Par).cells rfl (Par.len _) ?_;clear HX HL;intro g45 w HX
      have HL:=HX.drop [(g10,222,x.cells)] (by simp);refine X3y ?_;clear hK K;intro K hK;have HX2:=HX.perm (L':=((g45,61,(⟨x.key,sv5⟩:Par).cells)::(g10,222,x.cells)::[])++(G++(GV++(G5++[])))) (by simp);refine xan sl55 el61 _ _ rfl ((g45,61,(⟨x.key,sv5⟩:Par).cells)::(g10,222,x.cells)::[]) qs.length sv _ hG HX2 rfl ⟨g45,0,none⟩ 1 1 (⟨x.key,sv5⟩:Par).cells rfl (Rd.of_blk0 (es:=[]) (by rw[List.append_nil];exact HX2.blk (.head _))) (Par.len _) (Par.one _) (by omega) (by omega) (by omega) ?_;clear HX HX2 HL;intro svp' G' w hG' HX;have HL:=HX.drop [(g10,222,x.cells)] (by simp);refine Xcx ?_;clear hK K;clear HL;have HL:=HX.drop (G'++(GV++(G5++[]))) (by exact(sB _ _).trans (sB _ _));clear HX;go_upto_region 13 with fail;refine Xce ?_;go_wp2_with fail;go_roundw
      case rel =>
       refine⟨i+1,qs++[(⟨x.key,sv5⟩,lx)],G',GV++G5,svp',by omega,rfl,rfl,by rw[List.length_append];exact Nat.add_le_add_right hql 1,?_,?_,?_,by simpa[List.append_assoc] using HL⟩
       ·rw[List.length_append,List.map_append,List.flatMap_append];simpa using hG'
       ·rw[List.map_append,List.map_append];exact .snoc hGV hG5
       ·rw[HTK.out,HGV.out,List.map_append,HQS.out];rfl
      case measure=>simp[intOf]<;>omega
    ·have k4:decide ((i:Int)<(es3.length:Int))=false:=by simp;omega
     have hin:i=es3.length:=by omega
     go_upto_region 9 with fail;refine Xc1 ?_;go_upto_region 14 with fail;refine X7v ?_;go_wp2_with fail;go_ret;have hq:qs.map entP=es3.filterMap gv:=by rw[HQS.out,hin,List.take_length]
     have hnew:∀ y∈G++(GV++[]),w1.heap.size≤y.1:=fun y hy=>Nat.le_of_not_lt fun hlt2=>(HL.own y hy).1 ⟨hlt2,fun x hx=>by cases hx⟩
     have hB2:Bw w0 w:=HB.out.trans (HL.belowR _ HB.out.size (fun u hu=>by cases hu));have hsz:=HB.out.size;refine⟨sv,qs,rfl,⟨hG.rdm (fun x hx=>by simp[hx]) HL,hG.len.symm,hG.cap.1,fun q hq=>?_⟩,fun ad e=>Nat.le_trans hsz (hG.fars (fun y hy=>hnew y (by simp[hy])) ad e),fun q hq ad e=>?_,?_,fun k t=>?_,?_,hB2⟩
     ·have h1:=hGV.all (N:=w1.heap.size) (L:=G++(GV++[])) (fun x hx=>by simp[hx]) (fun y hy=>hnew y (by simp[hy])) HL
      obtain⟨j,hj,rfl⟩:=List.getElem_of_mem hq;exact(h1.tx j qs[j].1.val qs[j].2 (by simp[hj]) (by simp[hj])).1
     ·have h1:=hGV.all (N:=w1.heap.size) (L:=G++(GV++[])) (fun x hx=>by simp[hx]) (fun y hy=>hnew y (by simp[hy])) HL
      obtain⟨j,hj,rfl⟩:=List.getElem_of_mem hq;exact Nat.le_trans hsz ((h1.tx j qs[j].1.val qs[j].2 (by simp[hj]) (by simp[hj])).2 ad e)
     ·have h1:(es3.filterMap gv).Pairwise fun p q=>nOf p.1.l<nOf q.1.l:=by
       rw[List.pairwise_filterMap];refine HR3.out.imp fun {a b} hab p hp q hq=>?_
       unfold gv at hp hq
       split at hp
       ·cases hp
       ·split at hq
        ·cases hq
        ·injection hp with hp;injection hq with hq
         subst hp;subst hq;exact hab
      rw[← hq,List.pairwise_map] at h1;exact h1
     ·rw[hq,gv_spec,HS3.out,HALL.out]
     ·have h1:(qs.map entP).length≤es3.length:=by rw[hq];exact List.length_filterMap_le _ _
      rw[List.length_map] at h1;rw[HALL.out];exact Nat.le_trans h1 HL3.out
theorem cnt_if(R:List Int)(z y:Int):((if z=0 then R else z::R).count y)=R.count y+(if y=z∧z≠0 then 1 else 0):=by
 by_cases h:z=0
 ·rw[if_pos h,if_neg (by simp[h])];omega
 ·rw[if_neg h,List.count_cons,xd2]
  simp only[h,ne_eq,not_false_eq_true,and_true]
theorem xf1(R:List Int)(z:Int):(if z=0 then R else z::R).length≤R.length+1:=by
 split
 ·omega
 ·simp
theorem xnr{ws:List Wrt}{ls:List LU}(h:ls.length=ws.length):(esOf ws ls).length=ws.length:=by simp[esOf,h]
theorem xns{ws:List Wrt}{ls:List LU}(h:ls.length=ws.length):(esOf ws ls).map Prod.fst=ws.map Wrt.key:=by
 unfold esOf;rw[List.map_fst_zip];simp[h]
section
variable {gs g:Nat}
theorem xq8(D:Nat→Prop)(w:World)(σ:Sb)(vs vf:Sv)(R:List Int)(zo:Int)(A:Option Addr)(c N d:Nat)(h:StP D w gs g σ vs vf)(hI:σ.Inv R []):Calls prog 226 #[pG gs,iV zo,iV d,.slice A 0 c] w (MadeT D w gs g σ R d (xak N d []) 0):=by
 refine X97 ?_;intro HH HI;clear h hI;go_enter func226,ntmps226;go_upto_region 0 with fail;refine X1j ?_;go_upto_region 1 with fail;refine Xcy ?_;go_upto_region 2 with fail;refine X7y ?_;go_upto_region 3 with fail;refine X1j ?_;go_wp2_with fail;go_ret;exact⟨0,D,vs,vf,σ,rfl,HH.out,Stp.refl _ _,by simpa using HI.out,fun i hi hc=>⟨hi,rfl,rfl,hc⟩,by simp only[xak];rfl,rfl,by omega⟩
structure FrE (N d:Nat)(ws:List Wrt)(ls:List LU):Prop where
 parts:xgg N d (esOf ws ls)
 len:∀ p∈esOf ws ls,p.2.length≤1024
 share:∀ p∈esOf ws ls,∀ q∈esOf ws ls,∀ e,e<d→tb p.1.l e=tb q.1.l e
 nd:(ws.map Wrt.key).Nodup
theorem FrE.both{N d:Nat}{ws:List Wrt}{ls:List LU}(h:FrE (N+1) d ws ls)(hl:ls.length=ws.length)(h2:2≤ws.length) :
  FrE N (d+1) (ws.take (xbv d ws)) (ls.take (xbv d ws))∧FrE N (d+1) (ws.drop (xbv d ws)) (ls.drop (xbv d ws)) ∧
  xak (N+1) d (esOf ws ls)=xb1 (xak N (d+1) (esOf (ws.take (xbv d ws)) (ls.take (xbv d ws)))) (xak N (d+1) (esOf (ws.drop (xbv d ws)) (ls.drop (xbv d ws)))) ∧
  (∀ p∈esOf (ws.take (xbv d ws)) (ls.take (xbv d ws)),tb p.1.l d=false)∧(∀ p∈esOf (ws.drop (xbv d ws)) (ls.drop (xbv d ws)),tb p.1.l d=true) ∧
  (∀ t,newN t (esOf ws ls)=newN t (esOf (ws.take (xbv d ws)) (ls.take (xbv d ws)))+newN t (esOf (ws.drop (xbv d ws)) (ls.drop (xbv d ws))))∧(∀ t,1≤newN t (esOf ws ls)):=by
 obtain⟨e1,e2⟩:=xpg (d:=d) hl;have hnd:=h.nd;rw[← xns hl] at hnd;have hln:=xnr hl
 obtain⟨x,y,l,hx⟩:∃ x y l,esOf ws ls=x::y::l:=by
  match hq:esOf ws ls with
  | []=>rw[hq] at hln;simp at hln;omega
  | [a]=>rw[hq] at hln;simp at hln;omega
  | a::b::m=>exact⟨a,b,m,rfl⟩
 have hp:=h.parts;have happ:=xb5 (fun p:D32×LU=>!tb p.1.l d) (esOf ws ls);rw[e1,e2] at happ;have hT:=xdt (d:=d) (es:=esOf ws ls);rw[e1] at hT;have hsT:∀ p∈esOf (ws.take (xbv d ws)) (ls.take (xbv d ws)),p∈esOf ws ls:=fun p hp=>by rw[← happ];simp[hp]
 have hsD:∀ p∈esOf (ws.drop (xbv d ws)) (ls.drop (xbv d ws)),p∈esOf ws ls:=fun p hp=>by rw[← happ];simp[hp]
 rw[hx] at hp;obtain⟨hb,p1,p2⟩:=hp;rw[← hx,e1] at p1;rw[← hx,e2] at p2 hb;refine⟨⟨p1,fun p hp=>h.len p (hsT p hp),fun p hp q hq e he=>?_,?_⟩,⟨p2,fun p hp=>h.len p (hsD p hp),fun p hp q hq e he=>?_,?_⟩,?_,hT,hb,fun t=>by rw[← newN_app,happ],fun t=>?_⟩
 ·by_cases hed:e=d
  ·subst hed;rw[hT p hp,hT q hq]
  ·exact h.share p (hsT p hp) q (hsT q hq) e (by omega)
 ·rw[List.map_take];exact h.nd.sublist (List.take_sublist _ _)
 ·by_cases hed:e=d
  ·subst hed;rw[hb p hp,hb q hq]
  ·exact h.share p (hsD p hp) q (hsD q hq) e (by omega)
 ·rw[List.map_drop];exact h.nd.sublist (List.drop_sublist _ _)
 ·rw[← e1,← e2,hx];rfl
 ·rw[hx] at hnd ⊢
  refine newN_pos fun e=>?_
  simp only[qk,List.nodup_cons,List.mem_cons,not_or] at hnd;exact hnd.1.1 e
end
structure xnt (N:Nat):Prop where
 run:∀ (d:Nat) (hd:d+N=256) (D:Nat→Prop) (w:World) (gs g:Nat) (σ:Sb) (vs vf:Sv) (R:List Int) (zo:Int)(d0:Nat)(told:Tre)(A:Option Addr)(n c:Nat)(ws:List Wrt)(ls:List LU),
 StP D w gs g σ vs vf→σ.Inv R []→IsT σ zo d0 told→told.isIn=false→(∀ k v,told=.leaf k v→v.length≤1024)→WriT D w A n c ws ls→FrE N d ws ls→R.length+N≤500000000→n≤500000→σ.used+(N+1)*newN told (esOf ws ls)≤σ.room →
 Calls prog 226 #[pG gs,iV zo,iV d,.slice A n c] w (MadeT D w gs g σ R d (xak N d (esOf ws ls)) ((N+1)*newN told (esOf ws ls)))
theorem xnu(R:List Int)(z1 z2 y:Int):(if z2=0 then (if z1=0 then R else z1::R) else z2::(if z1=0 then R else z1::R)).count y=R.count y+(if y=z1∧z1≠0 then 1 else 0)+(if y=z2∧z2≠0 then 1 else 0):=by rw[cnt_if,cnt_if]
theorem xq9(N:Nat)(IH:xnt N)(d:Nat)(hd:d+(N+1)=256)(D:Nat→Prop)(w:World)(gs g:Nat)(σ:Sb)(vs vf:Sv)(R:List Int)(zo:Int)(d0:Nat)(told:Tre)(A:Option Addr)(n c:Nat)(ws:List Wrt)(ls:List LU)
  (h:StP D w gs g σ vs vf) (hI:σ.Inv R []) (ht:IsT σ zo d0 told) (hti:told.isIn=false) (htv:∀ k v,told=.leaf k v→v.length≤1024) (hW:WriT D w A n c ws ls) (hE:FrE (N+1) d ws ls) (hR:R.length+(N+1)≤500000000) (hn:n≤500000) (hroom:σ.used+(N+1+1)*newN told (esOf ws ls)≤σ.room) (h2:2≤n) :
  Calls prog 226 #[pG gs,iV zo,iV d,.slice A n c] w (MadeT D w gs g σ R d (xak (N+1) d (esOf ws ls)) ((N+1+1)*newN told (esOf ws ls))):=by
 have hln:=hW.s.len;obtain⟨ea,eb,ej,hba,hbb,hcnt,hpos⟩:=hE.both hW.len (by omega);have hzl:=xkx d ws;obtain⟨m,hm⟩:∃ m,xbv d ws=m:=⟨_,rfl⟩;rw[hm] at ea eb ej hba hbb hcnt hzl;have hla:(ls.take m).length=(ws.take m).length:=by simp[hW.len]
 have hlb:(ls.drop m).length=(ws.drop m).length:=by simp[hW.len]
 obtain⟨a,hA⟩:∃ a,newN told (esOf (ws.take m) (ls.take m))=a:=⟨_,rfl⟩;obtain⟨b,hB⟩:∃ b,newN told (esOf (ws.drop m) (ls.drop m))=b:=⟨_,rfl⟩;have hc:=hcnt told;have hp:=hpos told;rw[hA,hB] at hc;rw[hc] at hp hroom ⊢;have hmul:(N+1+1)*(a+b)=(N+1)*a+(N+1)*b+(a+b):=by rw[Nat.succ_mul,Nat.mul_add]
 rw[hmul] at hroom ⊢;generalize hPa:(N+1)*a=P at *;generalize hPb:(N+1)*b=Q at *;refine Xcz ?_;intro HH HI HT;have HTV:=hZ htv;have HW:=hZ hW;have HM:=hZ hm;have HEA:=hZ ea;have HEB:=hZ eb;have HLA:=hZ hla;have HLB:=hZ hlb;have hoa:=xdj N (d+1) _ (by omega) ea.parts ea.len ea.share;have hob:=xdj N (d+1) _ (by omega) eb.parts eb.len eb.share;have hka:=xc6 N (d+1) (esOf (ws.take m) (ls.take m));have hkb:=xc6 N (d+1) (esOf (ws.drop m) (ls.drop m));have hmn:m≤n:=by omega
 have hna:=hka.2;have hnb:=hkb.2;rw[xnr hla] at hna;rw[xnr hlb] at hnb;rw[List.length_take] at hna;rw[List.length_drop] at hnb
 have HJ:Hid ((∀ k∈(xak N (d+1) (esOf (ws.take m) (ls.take m))).keys,tb k.l d=false)∧(∀ k∈(xak N (d+1) (esOf (ws.drop m) (ls.drop m))).keys,tb k.l d=true)∧(∀ k∈(xak N (d+1) (esOf (ws.take m) (ls.take m))).keys++(xak N (d+1) (esOf (ws.drop m) (ls.drop m))).keys,∀ k'∈(xak N (d+1) (esOf (ws.take m) (ls.take m))).keys++(xak N (d+1) (esOf (ws.drop m) (ls.drop m))).keys,∀ e,e<d→tb k.l e=tb k'.l e)):=hZ (by
  have hall:∀ k∈(xak N (d+1) (esOf (ws.take m) (ls.take m))).keys++(xak N (d+1) (esOf (ws.drop m) (ls.drop m))).keys,∃ p∈esOf ws ls,p.1=k:=fun k hk=>by
   rw[← List.mem_map,xns hW.len];rcases List.mem_append.1 hk with h | h
   ·have:=hka.1 k h
    rw[xns hla,List.map_take] at this;exact(List.take_sublist _ _).subset this
   ·have:=hkb.1 k h
    rw[xns hlb,List.map_drop] at this;exact(List.drop_sublist _ _).subset this
  refine⟨fun k hk=>?_,fun k hk=>?_,fun k hk k' hk' e he=>?_⟩
  ·obtain⟨p,hp,rfl⟩:=List.mem_map.1 (hka.1 k hk);exact hba p hp
  ·obtain⟨p,hp,rfl⟩:=List.mem_map.1 (hkb.1 k hk);exact hbb p hp
  ·obtain⟨p,hp,rfl⟩:=hall k hk
   obtain⟨q,hq,rfl⟩:=hall k' hk'
   exact hE.share p hp q hq e he)
 rw[ej];generalize hfa:xak N (d+1) (esOf (ws.take m) (ls.take m))=ta at *;generalize hfb:xak N (d+1) (esOf (ws.drop m) (ls.drop m))=tr at *;have k0:((n:Int)==0)=false:=nB (by omega);have k1:((n:Int)==1)=false:=nB (by omega);refine Xd0 ?_;intro HD1;have hcap:=hW.s.cap;have hd256:d<256:=by omega
 have HSZ:Hid (ta.size+tr.size≤1000000):=hZ (by omega);have HRM:Hid (σ.used+P≤σ.room∧σ.used+P+Q≤σ.room∧σ.used+P+Q<σ.room):=hZ (by omega);have HFA:=hZ hfa;have HFB:=hZ hfb;have HA:=hZ hA;have HB:=hZ hB;have HPA:=hZ hPa;have HPB:=hZ hPb;have HOA:=hZ hoa;have HOB:=hZ hob;have HRL:=hZ hR;have HP:=hZ hp;clear htv h hI ht hW hE hm ea eb hla hlb hba hbb hcnt hpos hc hp hmul hPa hPb hoa hob hka hkb hna hnb hA hB hfa hfb ej hroom hR hzl hln;obtain⟨w0,rfl,HL⟩:=lS w;go_enter func226,ntmps226;go_upto_region 0 with fail;refine X1j ?_;go_upto_region 1 with fail;refine Xcy ?_;go_upto_region 2 with fail;refine Xd1 ?_;go_upto_region 4 with fail;refine Xd3 ?_;go_upto_region 9 with fail;refine X2j ?_;intro K hK;refine xad cf227 rfl _ rfl ?_;refine X1w ?_
 (with_reducible refine(xmd A n c ws d hd256 (HW.out.s.below HL.below) (by omega)).mono ?_);refine X44 ?_;intro w HL;simp only[HM.out];refine X2m ?_;clear hK K;go_upto_region 10 with fail;refine X6s ?_;refine Xd4 ?_;refine Xd6 ?_;refine X50 ?_;intro K hK;refine Xd7 ?_;(with_reducible refine(IH.run (d+1) (by omega) D _ gs g σ vs vf R zo d0 told A m c (ws.take m) (ls.take m) (HH.out.below HL.below) HI.out HT.out hti HTV.out ((HW.out.step (Stp.of_below HL.below)).take m hmn) HEA.out (by have:=HRL.out;omega) (by omega) (by rw[HA.out,HPA.out];exact HRM.out.1)).mono ?_);rintro e w ⟨z1,D1,vs1,vf1,σ1,rfl,hP1,hS1,hI1,hY1,hT1,hr1,hu1⟩;rw[HFA.out] at hT1;rw[HA.out,HPA.out] at hu1;have HW1:=hZ ((HW.out.step ((Stp.of_below HL.below).trans hS1)).drop m hmn);have HS1:=hZ ((Stp.of_below HL.below).trans hS1);have HP1:=hZ hP1;have HI1:=hZ hI1
 have HY1:=hZ hY1;have HT1:=hZ hT1;have HU1:=hZ (And.intro hr1 hu1);clear hP1 hS1 hI1 hY1 hT1 hr1 hu1 HL;refine X2m ?_;clear hK K;go_upto_region 11 with fail;refine X99 ?_;refine X11 ?_;refine X11 ?_;refine Xd4 ?_;refine Xd8 ?_;refine X50 ?_;intro K hK;refine Xd7 ?_;(with_reducible refine(IH.run (d+1) (by omega) D1 _ gs g σ1 vs1 vf1 (if z1=0 then R else z1::R) zo d0 told _ (n - m) (c - m) (ws.drop m) (ls.drop m) HP1.out HI1.out (HT.out.stay HY1.out) hti HTV.out HW1.out HEB.out (by have:=HRL.out;have:=xf1 R z1;omega) (by omega) (by rw[HB.out,HPB.out];have q1:=HU1.out;have q2:=HRM.out;omega)).mono ?_);rintro e w ⟨z2,D2,vs2,vf2,σ2,rfl,hP2,hS2,hI2,hY2,hT2,hr2,hu2⟩;rw[HFB.out] at hT2;rw[HB.out,HPB.out] at hu2;have HS2:=hZ (HS1.out.trans hS2);have HP2:=hZ hP2;have HI2:=hZ hI2;have HY2:=hZ hY2;have HT2:=hZ hT2
 have HU2:=hZ (And.intro hr2 hu2);clear hP2 hS2 hI2 hY2 hT2 hr2 hu2;refine X1y ?_;clear hK K;refine X50 ?_;intro K hK;refine xad cf228 rfl _ rfl ?_;refine X1w ?_;(with_reducible refine(xio HP2.out _ R HI2.out d hd256 z1 z2 ta tr (HT1.out.stay HY2.out) HT2.out HOA.out HOB.out HJ.out.1 HJ.out.2.1 HJ.out.2.2 (xnu R z1 z2) (by have:=HRL.out;have:=xf1 R z1;have:=xf1 (if z1=0 then R else z1::R) z2;omega) (by have q1:=HU1.out;have q2:=HRM.out;have q3:=HU2.out;omega) HSZ.out).mono ?_);rintro e w ⟨z3,D3,vs3,vf3,σ3,rfl,hP3,hS3,hI3,hY3,hT3,hr3,hu3⟩;refine X2m ?_;clear hK K;go_wp2_with fail;go_ret;exact⟨z3,D3,vs3,vf3,σ3,rfl,hP3,HS2.out.trans hS3,hI3,(HY1.out.trans HY2.out).trans hY3,hT3,by rw[hr3,HU2.out.1,HU1.out.1],by have q1:=HU1.out;have q3:=HU2.out;have q4:=HP.out;omega⟩
section
variable {D D':Nat→Prop}{w w':World}{gs g:Nat}{σ:Sb}{vs vf:Sv}{R:List Int}
theorem xgv(hI:σ.Inv R [])(hroom:σ.used<σ.room)(key:D32)(val:LU)(x:Sv)(d:Nat){vs' vf':Sv}(hP:StP D' w' gs g (σ.take ⟨xb9 key val x,1,val⟩) vs' vf') :
  (σ.take ⟨xb9 key val x,1,val⟩).Inv ((σ.next:Int)::R) []∧σ.Stays (σ.take ⟨xb9 key val x,1,val⟩)∧IsT (σ.take ⟨xb9 key val x,1,val⟩) (σ.next:Int) d (.leaf key val)∧(σ.take ⟨xb9 key val x,1,val⟩).room=σ.room∧(σ.take ⟨xb9 key val x,1,val⟩).used=σ.used+1∧¬ (σ.next:Int)=0:=by
 generalize he:(⟨xb9 key val x,1,val⟩:En)=e at *
 have g3:=hI.take e (Sb.take_ok hI.ok hroom e) [] (by rw[← he]) (by rw[← he]) (.inl (by rw[← he])) (.inl (by rw[← he])) (fun z=>by
  rw[← he];unfold En.pts;by_cases hz:z=0
  ·rw[if_pos hz];rfl
  ·rw[if_neg hz]
   have hz2 : ¬ (0:Int)=z:=fun e=>hz e.symm
   show 0=0+((if (0:Int)=z then 1 else 0)+(if (0:Int)=z then 1 else 0))
   rw[if_neg hz2])
 obtain⟨i0,hx,hrm,hus,hln,⟨hi0,hat0⟩,_⟩:=hI.taken e;have hmem:e∈(σ.take e).slots:=List.mem_of_getElem hat0;have hv:=(hP.sb.vals e hmem).1.len;refine⟨g3.1,Sb.Stays.take hI.nice e,⟨i0,hi0,by rw[hx];omega,by rw[hat0,← he];simp,by rw[hat0,← he],by rw[hat0,← he],by rw[hat0,← he],by rw[hat0,← he],by rw[hat0,← he],by rw[hat0,← he],by rw[hat0,← he],?_,by rw[hat0,← he]⟩,hrm,hus,by rw[hx];omega⟩;rw[hat0,← hv,← he]
end
end Go.Proofs.YtkjjdgnkelchfaaGreat
