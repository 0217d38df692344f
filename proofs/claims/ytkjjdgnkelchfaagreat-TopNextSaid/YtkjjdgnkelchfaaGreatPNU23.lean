import Derived.Test.YtkjjdgnkelchfaaGreatPNU22
set_option linter.unusedSimpArgs false
set_option linter.unusedVariables false
set_option maxRecDepth 100000
set_option maxHeartbeats 16000000
namespace Go.Proofs.YtkjjdgnkelchfaaGreat
open Go Go.RowKit Go.Proofs.Tryz
theorem ins0_p(w:World):Calls prog 193 #[.slice none 0 0,iV 0,iV 0,.func (.func 14) #[] #[]] w fun e w'=>e=.returned (.tuple #[])∧w=w':=by
 obtain⟨w0,rfl,HL⟩:=lS w;refine Xaz ?_;intro H01;have k14:decide (((1:Nat):Int)<0)=false:=by simp
 go_enter func193,ntmps193;go_upto_region 0 with fail;refine X12 ?_;refine Xb0 ?_;refine X1a ?_;go_wp2_with fail;refine X9q ?_;rw[rounds_succ];go_upto_region 1 with fail;refine Xb2 ?_;go_wp2_with fail
 go_end0
 exact⟨rfl,rfl⟩
theorem pdq0_p(w:World)(r:Int):Calls prog 134 #[.slice none 0 0,iV 0,iV 0,iV r,.func (.func 14) #[] #[]] w fun e w'=>e=.returned (.tuple #[])∧w=w':=by
 have C:=hZ (ins0_p w);have H0:Hid ((0:Int) - 0=0):=hZ (by omega);have k1:decide ((0:Int)≤12)=true:=by simp
 obtain⟨w0,rfl,HL⟩:=lS w;go_enter func134,ntmps134;go_upto_region 0 with fail;refine X1j ?_;go_upto_region 1 with fail;refine X1j ?_;go_wp2_with fail;refine X9q ?_;rw[rounds_succ];go_upto_region 2 with fail;refine X19 ?_;refine Xbr ?_;refine X1a ?_;go_upto_region 3 with fail;refine X12 ?_;refine Xbs ?_;refine X1z ?_;go_upto_region 4 with fail;refine X9a ?_;intro K hK;refine xad cf193 rfl _ rfl ?_;refine Xbt ?_;rintro e w ⟨rfl,rfl⟩;refine X20 ?_;clear hK K;go_wp2_with fail;refine Xbu ?_;exact⟨rfl,rfl⟩
theorem sort0_p(w:World):Calls prog 84 #[.slice none 0 0,.func (.func 14) #[] #[]] w fun e w'=>e=.returned (.tuple #[])∧w=w':=by
 have C:∀ r:Int,Hid (Calls prog 134 #[.slice none 0 0,iV 0,.int .i64 ((0:Nat):Int),iV r,.func (.func 14) #[] #[]] w fun e w'=>e=.returned (.tuple #[])∧w=w'):=fun r=>hZ (pdq0_p w r)
 obtain⟨w0,rfl,HL⟩:=lS w;have HB:=hZ (xhq (0:Int) w0 (by omega) (by omega));have hcv:IntKind.u64.wrap (0:Int)=0:=rfl;go_enter func84,ntmps84;go_upto_region 0 with fail;refine Xjx ?_;refine X1a ?_;go_upto_region 1 with fail;refine X6s ?_;refine Xbz ?_;refine X50 ?_;intro K hK;refine Xbx ?_;rintro e w ⟨r,rfl,rfl⟩;refine X1y ?_;clear hK K;refine X42 ?_;intro K hK;refine xad cf134 rfl _ rfl ?_;refine Xby ?_;rintro e w ⟨rfl,rfl⟩;refine X20 ?_;clear hK K;go_wp2_with fail
 go_end0
 exact⟨rfl,rfl⟩
def ddN(xs:List D32):Nat→List D32
 | 0=>[]
 | p+1=>if 0<p∧xs.getD p D32.z=xs.getD (p - 1) D32.z then ddN xs p else ddN xs p++[xs.getD p D32.z]
def RisK(ks:List D32):Prop:=ks.Pairwise fun a b=>nOf a.l<nOf b.l
theorem ddN_ok(xs:List D32)(hs:Srt D32.ky xs):∀ p,p≤xs.length→RisK (ddN xs p)∧∀ x,x∈ddN xs p↔x∈xs.take p
 | 0,_=>⟨List.Pairwise.nil,fun x=>by simp[ddN]⟩
 | p+1,hp=>by
  obtain⟨h1,h2⟩:=ddN_ok xs hs p (by omega);have hgd:∀ q (hq:q<xs.length),xs.getD q D32.z=xs[q]:=fun q hq=>by simp[List.getD,hq]
  have ht:xs.take (p+1)=xs.take p++[xs[p]]:=by rw[List.take_append_getElem]
  unfold ddN;rw[hgd p (by omega),ht]
  split
  ·next h =>
   refine⟨h1,fun x=>?_⟩;rw[h2,List.mem_append,List.mem_singleton];refine⟨.inl,fun h3=>h3.elim id fun h3=>?_⟩;rw[h3,h.2,hgd (p - 1) (by omega)];exact List.mem_take_iff_getElem.2 ⟨p - 1,by omega,rfl⟩
  ·next h =>
   refine⟨List.pairwise_append.2 ⟨h1,List.pairwise_singleton _ _,fun a ha b hb=>?_⟩,fun x=>by rw[List.mem_append,List.mem_append,h2]⟩;rw[List.mem_singleton.1 hb];rw[h2] at ha;obtain⟨q,hq,rfl⟩:=List.mem_take_iff_getElem.1 ha;have hp0:0<p:=by omega
   have hne : ¬ xs[p]=xs[p - 1]:=fun e=>h ⟨hp0,by rw[hgd (p - 1) (by omega)];exact e⟩
   have hP:=List.pairwise_iff_getElem.1 hs;have h4:nOf (xs[p - 1]).l≤nOf (xs[p]).l:=hP (p - 1) p (by omega) (by omega) (by omega)
   have h5:nOf (xs[q]).l≤nOf (xs[p - 1]).l:=by
    by_cases hqp:q=p - 1
    ·subst hqp;exact Nat.le_refl _
    ·exact hP q (p - 1) (by omega) (by omega) (by omega)
   have h6:nOf (xs[p - 1]).l≠nOf (xs[p]).l:=fun e=>hne (D32.ext (xjk (by rw[xs[p].h,xs[p - 1].h]) e.symm))
   omega
theorem xqa:∀ {a b:List D32},RisK a→RisK b→(∀ x,x∈a↔x∈b)→a=b
 | [],[],_,_,_=>rfl
 | [],y::b,_,_,h=>absurd ((h y).2 (by simp)) (by simp)
 | x::a,[],_,_,h=>absurd ((h x).1 (by simp)) (by simp)
 | x::a,y::b,ha,hb,h=>by
  obtain⟨ha1,ha2⟩:=List.pairwise_cons.1 ha;obtain⟨hb1,hb2⟩:=List.pairwise_cons.1 hb
  have hxy:x=y:=by
   rcases List.mem_cons.1 ((h x).1 (by simp)) with e | hx
   ·exact e
   ·rcases List.mem_cons.1 ((h y).2 (by simp)) with e | hy
    ·exact e.symm
    ·have:=hb1 x hx;have:=ha1 y hy;omega
  subst hxy;congr 1;refine xqa ha2 hb2 fun z=>?_
  have hz:=h z;simp only[List.mem_cons] at hz;constructor
  ·intro hm
   rcases hz.1 (.inr hm) with e | e
   ·subst e;have:=ha1 z hm;omega
   ·exact e
  ·intro hm
   rcases hz.2 (.inr hm) with e | e
   ·subst e;have:=hb1 z hm;omega
   ·exact e
theorem zero_len(zs:Array Value)(n:Nat):(Builtin.zeroCells zs n).toList.length=n*zs.size:=by simp[Builtin.zeroCells]
theorem xvi{P:Program}{w:World}{o:Oper}{a:Act}{K:Act→World→Prop}{Q:Exit→Act→World→Prop}{t e:TypeId}{zs:List Value}{zv:Value}(ht:P.underlying t=some (.slice e))(hv:∀ w,(zeroValue e).run P w=.ok zv w)(hz:zv.cells=zs.toArray)(hz1:∀ u∈zs,u.oneCell'=true)(hz0:0<zs.length)
  (x:Operand) (ho:o.op=.call { callee:=.builtin .clear,args:=#[x],argTypes:=#[t] }) (g k n c T:Nat) (cs:List Value) (hx:a.eval x=.slice (some ⟨g,k,none⟩) n c) (hn:0<n) (hb:Blk w g T cs) (hf:k+n*zs.length≤cs.length)
  (h:∀ w' vs,vs.length=n*zs.length→Blk w' g T (splice cs k vs)→w.grownBy w' (some g)→K (a.put o.dst (.tuple #[])) w'):o.wp P a w K Q:=by
 have hl:=zero_len zs.toArray n;simp only[List.size_toArray] at hl
 have h1:∀ u∈(Builtin.zeroCells zs.toArray n).toList,u.oneCell'=true:=by
  intro u hu;simp only[Builtin.zeroCells,Array.toList_map,Array.toList_range,List.mem_map,List.mem_range] at hu;obtain⟨q,hq,rfl⟩:=hu;have hm:q%zs.toArray.size<zs.length:=Nat.mod_lt _ hz0;refine hz1 _ ?_;simp only[List.size_toArray] at hm ⊢;simp[hm]
 have hth:=hb.there k (Builtin.zeroCells zs.toArray n).toList.length (by rw[hl];exact hf);have hst:=run_storeCells_cells (P:=P) g k (Builtin.zeroCells zs.toArray n).toList 0 w (fun j hj=>(hth j hj).1) (fun j hj=>(hth j hj).2) h1;rw[Nat.add_zero] at hst;obtain⟨m,rfl⟩:∃ m,n=m+1:=⟨n - 1,by omega⟩
 have e1:(Builtin.clear_ #[t] o.type #[.slice (some ⟨g,k,none⟩) (m+1) c]).run P w=.ok (.tuple #[]) (w.setCells g k (Builtin.zeroCells zs.toArray (m+1)).toList):=by
  simp[Builtin.clear_,run_underlying ht,hv,hz,hst]
 have e:(execOp a.eval o).run P w=.ok (.value (.tuple #[])) (w.setCells g k (Builtin.zeroCells zs.toArray (m+1)).toList):=by
  obtain⟨dst,op,ty,pos,after,guard⟩:=o;simp only at ho;subst ho;simp only at e1;rw[BigFrame.execOp_builtin,BigFrame.builtin_clear];have e2:(#[x].map a.eval)=#[.slice (some ⟨g,k,none⟩) (m+1) c]:=by simp[hx]
  rw[e2,Sem.run_bind,e1];rfl
 unfold Oper.wp;rw[e];exact h _ _ hl (hb.setCells k _ (by rw[hl];exact hf)) (xfc _ _ _ _)
theorem xiz{P:Program}{w:World}{a:Act}{o:Oper}{t e:TypeId}{z:Nat}(B:ST P t e z)(x y:Operand)(ho:o.op=.indexAddr t x y)(G l n c i:Nat)(k:IntKind)(hx:a.eval x=.slice (some ⟨G,l*z,none⟩) n c)(hy:a.eval y=.int k (i:Int))(hi:i<n) :
  (execOp a.eval o).run P w=.ok (.value (.pointer (some ⟨G,(l+i)*z,none⟩))) w:=by
 have:=xaz (w:=w) B x y ho _ n c i k hx hy hi;rwa [xei,← Nat.add_mul] at this
theorem xmp{P:Program}{w:World}{a:Act}{o:Oper}{T E:TypeId}{z:Nat}(B:ST P T E z)(x lo:Operand)(ho:o.op=.slice T x (some lo) none none)(G n c l:Nat)(k:IntKind)(hx:a.eval x=.slice (aS G) n c)(hh:a.eval lo=.int k (l:Int))(hb:l≤n)(hc:l<c) :
  (execOp a.eval o).run P w=.ok (.value (.slice (some ⟨G,l*z,none⟩) (n - l) (c - l))) w:=by
 have:=xbt (w:=w) B x lo ho _ n c l k hx hh hb;rw[this];unfold cutA;rw[if_neg (by omega)];simp[xei]
theorem zero24(w:World):(zeroValue 24).run prog w=.ok (.agg D32.z.c.toArray) w:=by kernel_rfl
section
variable {w w':World}
theorem xvj(g n c:Nat)(xs:List D32)(sp:List Value)(w:World)(hb:Blk w g 24 (xs.flatMap D32.c++sp))(hn:xs.length=n)(hc:n≤c)(h63:n≤1000) :
  Calls prog 85 #[.slice (aS g) n c] w fun e w'=>∃ (m:Nat)(sp':List Value),e=.returned (.slice (aS g) m c)∧m≤n∧Blk w' g 24 ((ddN xs n).flatMap D32.c++sp')∧(ddN xs n).length=m∧Fr (· = g) w w':=by
 have HN:=hZ hn;have hf:Fr (· = g) w w:=Fr.refl _ _;obtain⟨w0,rfl⟩:=eW w;have HL:Loc w0 (fun k=>Old w0 k∧¬ k=g) [(g,24,xs.flatMap D32.c++sp)] w0:=Loc.of1 hf hb;have hgd:∀ q (hq:q<n),Hid (xs.getD q D32.z=xs[q]'(by rw[hn];exact hq)):=fun q hq=>hZ (by simp[List.getD,show q<xs.length by omega])
 have hpart:∀ q (hq:q<n),Hid (((xs.flatMap D32.c++sp).drop (q*32)).take 32=(xs.getD q D32.z).c):=fun q hq=>hZ (by rw[(hgd q hq).out];exact xcb D32.cl xs sp q (by omega))
 clear hb hf;by_cases h2:n<2
 ·have k1:decide ((n:Int)<2)=true:=by simp;omega
  go_enter func85,ntmps85;go_upto_region 0 with fail;refine X1j ?_;go_upto_region 1 with fail;refine X12 ?_;refine Xjy ?_;refine X6 ?_;refine Xgj ?_;refine X1z ?_;go_upto_region 2 with fail;refine X7v ?_;go_wp2_with fail;go_ret
  have hdd:ddN xs n=xs:=by
   have hl:=HN.out
   match xs,hl with
   | [],hl=>subst hl;rfl
   | [x],hl=>subst hl;rfl
   | x::y::l,hl=>simp at hl;omega
  exact⟨n,sp,rfl,Nat.le_refl _,by rw[hdd];exact HL.blk (.head _),by rw[hdd,HN.out],HL.frS⟩
 have k1:decide ((n:Int)<2)=false:=by simp;omega
 go_enter func85,ntmps85;go_upto_region 0 with fail;refine X1j ?_;go_upto_region 1 with fail;refine X12 ?_;refine Xjy ?_;refine X6 ?_;refine Xgk ?_;refine X1z ?_;go_upto_region 3 with fail;refine X1j ?_;go_wp2_with fail
 go_loopw [3,4,5] (fun z _ _ wr=>∃ k:Nat,z=.int .i64 (k:Int)∧1≤k∧k≤n∧ddN xs k=xs.take k∧Loc w0 (fun k=>Old w0 k∧¬ k=g) [(g,24,xs.flatMap D32.c++sp)] wr) (fun z _ _ _=>(n - intOf z).toNat)
 case atStart=>exact⟨1,rfl,Nat.le_refl _,by omega,by
  have hl:=HN.out
  match xs,hl with
  | [],hl=>simp at hl;omega
  | x::l,_=>rfl,HL⟩
 case round=>as_aux_lemma =>
  clear HL;obtain⟨k,rfl,hk1,hkn,hdd,HL⟩:=hrel;obtain⟨w,rfl⟩:=eW wr;have HDD:=hZ hdd;clear hdd;by_cases hlt:k<n
  ·have k4:decide ((k:Int)<(n:Int))=true:=by simp;omega
   have HK1:Hid ((k:Int) - 1=((k - 1:Nat):Int)):=hZ (by omega);have HKA:Hid ((k:Int)+1=((k+1:Nat):Int)):=hZ (by omega);obtain⟨eb,heb⟩:∃ eb,((xs.getD k D32.z).l==(xs.getD (k - 1) D32.z).l)=eb:=⟨_,rfl⟩;have HEB:=hZ heb;clear heb;have HLT:=hZ hlt;go_upto_region 4 with fail;refine X19 ?_;refine Xjy ?_;refine X6 ?_;refine xaa rfl _ (xax (b:=true) _ _ rfl _ _ rfl rfl k4) ?_;refine X1z ?_;go_upto_region 6 with fail;refine rB (Loc.P HL) [] [] [0,1,2,3,4,5,6,7,8,9] 0 ?_;refine X3v ?_;intro HL;refine xab rfl rfl HL (fun W hW=>xap sl26 _ _ rfl g n c k .i64 rfl rfl hlt) ?_;refine X6 ?_;refine xab rfl rfl HL (fun W hW=>xav ag24 hW _ rfl g (k*32) rfl 24 _ _ (.head _) (hpart k hlt).out (D32.cl _)) ?_;refine X71 ?_
   refine xab rfl rfl HL (fun W hW=>xa2 _ _ rfl _ _ _ rfl rfl HK1.out (by omega)) ?_;refine X6 ?_;refine xab rfl rfl HL (fun W hW=>xap sl26 _ _ rfl g n c (k - 1) .i64 rfl rfl (by omega)) ?_;refine X6 ?_;refine xab rfl rfl HL (fun W hW=>xav ag24 hW _ rfl g ((k - 1)*32) rfl 24 _ _ (.head _) (hpart (k - 1) (by omega)).out (D32.cl _)) ?_;refine X6 ?_;refine xab rfl rfl HL (fun W hW=>xd1 ab23 _ _ rfl (xs.getD k D32.z) (xs.getD (k - 1) D32.z) rfl rfl eb HEB.out) ?_;refine Xb ?_
   cases eb with
   | false =>
    go_upto_region 5 with fail;refine X12 ?_;refine xaa rfl _ (xa6 _ _ rfl _ _ _ rfl rfl HKA.out (by omega)) ?_;refine X1a ?_;go_wp2_with fail;go_roundw
    case rel=>exact⟨k+1,rfl,by omega,hlt,by
     have hne : ¬ (0<k∧xs.getD k D32.z=xs.getD (k - 1) D32.z):=fun h=>by
      have h9:=HEB.out;rw[h.2] at h9;simp at h9
     rw[ddN,if_neg hne,HDD.out,(hgd k hlt).out,List.take_append_getElem],HL⟩
    case measure=>simp[intOf]<;>omega
   | true =>
    have HEQ:Hid (xs.getD k D32.z=xs.getD (k - 1) D32.z):=hZ (D32.ext (by simpa using HEB.out));go_upto_region 7 with fail;refine X19 ?_;refine xaa rfl _ (xmp sl26 _ _ rfl g n c k .i64 rfl rfl (by omega) (by omega)) ?_;refine X1a ?_;go_upto_region 8 with fail;refine X1j ?_;have HST:Hid (ddN xs (k+1)=xs.take k):=hZ (by rw[ddN,if_pos ⟨by omega,HEQ.out⟩,HDD.out])
    have hinit:xs=ddN xs (k+1)++xs.drop (ddN xs (k+1)).length:=by
     rw[HST.out,List.length_take,Nat.min_eq_left (by rw[HN.out];omega),List.take_append_drop]
    go_wp2_with fail
    go_loopw [3,5] (fun z z2 wr=>∃ p m:Nat,z=.int .i64 (m:Int)∧z2=.int .i64 ((p - k:Nat):Int)∧k+1≤p∧p≤n∧(ddN xs p).length=m∧m+1≤p∧1≤m∧Loc w0 (fun k=>Old w0 k∧¬ k=g) [(g,24,(ddN xs p++xs.drop m).flatMap D32.c++sp)] wr) (fun _ z2 _=>(n - intOf z2).toNat)
    case atStart =>
     have hm:(ddN xs (k+1)).length=k:=by rw[HST.out,List.length_take,Nat.min_eq_left (by rw[HN.out];omega)]
     refine⟨k+1,k,rfl,by rw[show k+1 - k=1 by omega];rfl,Nat.le_refl _,hlt,hm,Nat.le_refl _,hk1,?_⟩;rw[hm] at hinit;rw[← hinit];exact HL
    case round=>as_aux_lemma =>
     clear HL hinit HST;obtain⟨p,m,rfl,rfl,hp1,hpn,hdl,hmp,hm1,HL⟩:=hrel;obtain⟨w,rfl⟩:=eW wr;have hyl:(ddN xs p++xs.drop m).length=n:=by rw[List.length_append,List.length_drop,hdl,HN.out];omega
     have hyat:∀ q (h1:m≤q) (h2:q<n),(ddN xs p++xs.drop m)[q]'(by rw[hyl];exact h2)=xs.getD q D32.z:=fun q h1 h2=>by
      rw[(hgd q h2).out,List.getElem_append_right (by omega),List.getElem_drop];congr 1;omega
     by_cases hpl:p<n
     ·have k9:decide (((p - k:Nat):Int)<((n - k:Nat):Int))=true:=by simp;omega
      have HK2:Hid (((p - k:Nat):Int) - 1=((p - k - 1:Nat):Int)):=hZ (by omega);have HKB:Hid (((p - k:Nat):Int)+1=((p+1 - k:Nat):Int)):=hZ (by omega);have HMA:Hid ((m:Int)+1=((m+1:Nat):Int)):=hZ (by omega)
      have HP1:Hid ((((ddN xs p++xs.drop m).flatMap D32.c++sp).drop ((k+(p - k))*32)).take 32=(xs.getD p D32.z).c):=hZ (by
       rw[show k+(p - k)=p by omega,← hyat p (by omega) hpl]
       exact xcb D32.cl _ sp p (by rw[hyl];exact hpl))
      have HP2:Hid ((((ddN xs p++xs.drop m).flatMap D32.c++sp).drop ((k+(p - k - 1))*32)).take 32=(xs.getD (p - 1) D32.z).c):=hZ (by
       rw[show k+(p - k - 1)=p - 1 by omega,← hyat (p - 1) (by omega) (by omega)]
       exact xcb D32.cl _ sp (p - 1) (by rw[hyl];omega))
      have HSP:=hZ (xci D32.cl (ddN xs p++xs.drop m) sp m (xs.getD p D32.z) (by rw[hyl];omega));have HSL:Hid (m*32+32≤((ddN xs p++xs.drop m).flatMap D32.c++sp).length):=hZ (by rw[List.length_append,xaw D32.cl,hyl];omega)
      have HSN:Hid ((ddN xs p++xs.drop m).set m (xs.getD p D32.z)=(ddN xs p++[xs.getD p D32.z])++xs.drop (m+1)):=hZ (by
       rw[List.set_append_right _ _ (by omega),hdl,Nat.sub_self,List.drop_eq_getElem_cons (show m<xs.length by rw[HN.out];omega),List.set_cons_zero]
       simp)
      obtain⟨eb,heb⟩:∃ eb,((xs.getD p D32.z).l==(xs.getD (p - 1) D32.z).l)=eb:=⟨_,rfl⟩;have HE1:Hid ((!((xs.getD p D32.z).l==(xs.getD (p - 1) D32.z).l)) = !eb):=hZ (by rw[heb]);have HEV:=hZ heb;have HDL:=hZ hdl;clear heb hdl hyat hyl;have hik:p - k<n - k:=by omega
      have hik1:p - k - 1<n - k:=by omega
      go_upto_region 9 with fail;refine X19 ?_;refine xaa rfl _ (xam underlying26 _ rfl ⟨some ⟨g,k*32,none⟩,n - k,c - k⟩ (n - k) rfl rfl) ?_;refine X6 ?_;refine xaa rfl _ (xax (b:=true) _ _ rfl _ _ rfl rfl k9) ?_;refine X1z ?_;go_upto_region 11 with fail;refine rB (Loc.P HL) [] [] [0,1,2,3,4,5,6,7,8,9] 0 ?_;refine X3v ?_;intro HL;refine xab rfl rfl HL (fun W hW=>xiz sl26 _ _ rfl g k (n - k) (c - k) (p - k) .i64 rfl rfl hik) ?_;refine X6 ?_;refine xab rfl rfl HL (fun W hW=>xav ag24 hW _ rfl g ((k+(p - k))*32) rfl 24 _ _ (.head _) HP1.out (D32.cl _)) ?_;refine X71 ?_;refine xab rfl rfl HL (fun W hW=>xa2 _ _ rfl _ _ _ rfl rfl HK2.out (by omega)) ?_;refine X6 ?_;refine xab rfl rfl HL (fun W hW=>xiz sl26 _ _ rfl g k (n - k) (c - k) (p - k - 1) .i64 rfl rfl hik1) ?_;refine X6 ?_
      refine xab rfl rfl HL (fun W hW=>xav ag24 hW _ rfl g ((k+(p - k - 1))*32) rfl 24 _ _ (.head _) HP2.out (D32.cl _)) ?_;refine X6 ?_;refine xab rfl rfl HL (fun W hW=>xkv ab23 _ _ rfl (xs.getD p D32.z) (xs.getD (p - 1) D32.z) rfl rfl (!eb) HE1.out) ?_;refine Xb ?_
      cases eb with
      | true =>
       go_upto_region 10 with fail;refine Xjz ?_;refine X1a ?_;have hdd2:ddN xs (p+1)=ddN xs p:=by rw[ddN,if_pos ⟨by omega,D32.ext (by simpa using HEV.out)⟩]
       go_wp2_with fail;go_roundw
       case rel=>exact⟨p+1,m,rfl,rfl,by omega,by omega,by rw[hdd2];exact HDL.out,by omega,hm1,by rw[hdd2];exact HL⟩
       case measure=>simp[intOf]<;>omega
      | false =>
       go_upto_region 12 with fail;refine X99 ?_;refine xaa rfl _ (xiz sl26 _ _ rfl g k (n - k) (c - k) (p - k) .i64 rfl rfl hik) ?_;refine X6 ?_;refine xaa rfl _ (xav ag24 HL _ rfl g ((k+(p - k))*32) rfl 24 _ _ (.head _) HP1.out (D32.cl _)) ?_;refine X6 ?_;refine xaa rfl _ (xap sl26 _ _ rfl g n c m .i64 rfl rfl (by omega)) ?_;refine X6 ?_;refine xff ag24 rfl _ _ rfl HL 0 g (m*32) 24 _ _ _ rfl rfl rfl (D32.cl _) HSL.out (D32.c1 _) HSP.out ?_;clear HL;intro w HL;simp only[qg] at HL;rw[HSN.out] at HL;refine X17 ?_;go_upto_region 13 with fail;refine X12 ?_;refine xaa rfl _ (xa6 _ _ rfl _ _ _ rfl rfl HMA.out (by omega)) ?_;refine X1a ?_;go_upto_region 10 with fail;refine Xjz ?_;refine X1a ?_
       have hdd2:ddN xs (p+1)=ddN xs p++[xs.getD p D32.z]:=by
        rw[ddN,if_neg];intro h;have h9:=HEV.out;rw[h.2] at h9;simp at h9
       go_wp2_with fail;go_roundw
       case rel=>exact⟨p+1,m+1,rfl,rfl,by omega,by omega,by rw[hdd2,List.length_append,HDL.out];rfl,by omega,by omega,by rw[hdd2];exact HL⟩
       case measure=>simp[intOf]<;>omega
     ·have hpe:p=n:=by omega
      subst hpe;have k9:decide (((p - k:Nat):Int)<((p - k:Nat):Int))=false:=by simp
      have HDL:=hZ hdl;have HYL:=hZ hyl;clear hdl hyl hyat;go_upto_region 9 with fail;refine X19 ?_;refine xaa rfl _ (xam underlying26 _ rfl ⟨some ⟨g,k*32,none⟩,p - k,c - k⟩ (p - k) rfl rfl) ?_;refine X6 ?_;refine xaa rfl _ (xax (b:=false) _ _ rfl _ _ rfl rfl k9) ?_;refine X1z ?_;have HFL:Hid (m*32+(p - m)*D32.z.c.length≤((ddN xs p++xs.drop m).flatMap D32.c++sp).length):=hZ (by rw[List.length_append,xaw D32.cl,HYL.out,D32.cl];omega);go_upto_region 14 with fail;refine X19 ?_;refine xaa rfl _ (xmp sl26 _ _ rfl g p c m .i64 rfl rfl (by omega) (by omega)) ?_;refine X50 ?_;intro K hK;refine xvi underlying26 zero24 (zs:=D32.z.c) rfl (D32.c1 _) (by rw[D32.cl];decide) (.tmp 56) rfl g (m*32) (p - m) (c - m) 24 _ rfl (by omega) (HL.blk (.head _)) HFL.out ?_;intro w3 vs hvl hb3 hg3
      have hf3:Fr (· = g) w0 w3:=HL.frS.grown hg3 (fun k hk=>.inl (by cases hk;rfl));have HV:=hZ hvl;clear HL hvl;have HL:=Loc.of1 hf3 hb3;obtain⟨w,rfl⟩:∃ w,w=w3:=⟨_,rfl⟩;refine hK _ _ ?_;clear hK K hb3 hg3 hf3;refine X17 ?_;go_upto_region 15 with fail;refine X19 ?_;refine xaa rfl _ (xbw sl26 _ _ rfl (aS g) p c m .i64 rfl rfl (by omega)) ?_;refine X1a ?_;go_wp2_with fail;go_ret;refine⟨m,(vs++((ddN xs p++xs.drop m).flatMap D32.c++sp).drop (m*32+vs.length)),rfl,by omega,?_,HDL.out,HL.frS⟩;have hb9:=HL.blk (.head _)
      have e9:splice ((ddN xs p++xs.drop m).flatMap D32.c++sp) (m*32) vs=(ddN xs p).flatMap D32.c++(vs++((ddN xs p++xs.drop m).flatMap D32.c++sp).drop (m*32+vs.length)):=by
       unfold splice;congr 1;rw[List.flatMap_append,List.append_assoc,List.take_left'];rw[xaw D32.cl,HDL.out]
      rw[e9] at hb9;exact hb9
  ·have hke:k=n:=by omega
   have k4:decide ((k:Int)<(n:Int))=false:=by simp;omega
   go_upto_region 4 with fail;refine X19 ?_;refine Xjy ?_;refine X6 ?_;refine xaa rfl _ (xax (b:=false) _ _ rfl _ _ rfl rfl k4) ?_;refine X1z ?_;go_upto_region 16 with fail;refine X7v ?_;go_wp2_with fail;go_ret;have hdd:ddN xs n=xs:=by rw[← hke,HDD.out,List.take_of_length_le (by rw[HN.out];omega)]
   exact⟨n,sp,rfl,Nat.le_refl _,by rw[hdd];exact HL.blk (.head _),by rw[hdd,HN.out],HL.frS⟩
end
abbrev loE(d:Nat)(es:List Ent):List Ent:=es.takeWhile fun p=>!tb p.1.l d
abbrev hiE(d:Nat)(es:List Ent):List Ent:=es.dropWhile fun p=>!tb p.1.l d
abbrev loK(d:Nat)(ks:List D32):List D32:=ks.takeWhile fun k=>!tb k.l d
abbrev hiK(d:Nat)(ks:List D32):List D32:=ks.dropWhile fun k=>!tb k.l d
theorem xgl{α:Type}(A B l:List α)(h:A++B=l):l.take A.length=A∧l.drop A.length=B:=by subst h;exact⟨List.take_left' rfl,List.drop_left' rfl⟩
theorem xte(ks:List D32)(d:Nat):ks.take (xbd ks d)=loK d ks:=(xgl _ _ _ (xb5 _ ks)).1
theorem xtf(ks:List D32)(d:Nat):ks.drop (xbd ks d)=hiK d ks:=(xgl _ _ _ (xb5 _ ks)).2
theorem xh4(d:Nat)(es:List Ent):(loE d es).map Prod.fst=loK d (es.map Prod.fst):=by unfold loE loK;rw[List.takeWhile_map];rfl
theorem hiE_keys(d:Nat)(es:List Ent):(hiE d es).map Prod.fst=hiK d (es.map Prod.fst):=by
 have h1:=xb5 (fun p:Ent=>!tb p.1.l d) es;have h2:=xb5 (fun k:D32=>!tb k.l d) (es.map Prod.fst);have h3:=xh4 d es;have h4:(loE d es++hiE d es).map Prod.fst=loK d (es.map Prod.fst)++hiK d (es.map Prod.fst):=by rw[h2];exact congrArg (List.map Prod.fst) h1
 rw[List.map_append,h3] at h4;exact List.append_cancel_left h4
theorem partE_lo(es:List Ent)(d:Nat):es.take (xbd (es.map Prod.fst) d)=loE d es:=by
 have h:xbd (es.map Prod.fst) d=(loE d es).length:=by
  have:=congrArg List.length (xh4 d es);rw[List.length_map] at this;exact this.symm
 rw[h];exact(xgl _ _ _ (xb5 _ es)).1
theorem partE_hi(es:List Ent)(d:Nat):es.drop (xbd (es.map Prod.fst) d)=hiE d es:=by
 have h:xbd (es.map Prod.fst) d=(loE d es).length:=by
  have:=congrArg List.length (xh4 d es);rw[List.length_map] at this;exact this.symm
 rw[h];exact(xgl _ _ _ (xb5 _ es)).2
def skT:Tre→List D32→Nat→List Brv
 | .nil,_,_=>[Brv.z]
 | .leaf k v,[],_=>[⟨3,D32.z,D32.z,(Tre.leaf k v).dg⟩]
 | .leaf k v,_::_,_=>[⟨1,k,tagV v,D32.z⟩]
 | .inner l r,[],_=>[⟨3,D32.z,D32.z,(Tre.inner l r).dg⟩]
 | .inner l r,k::ks,d=>⟨2,D32.z,D32.z,D32.z⟩::(skT l (loK d (k::ks)) (d+1)++skT r (hiK d (k::ks)) (d+1))
theorem xod:∀ (t:Tre)(ks:List D32)(d:Nat),∀ b∈skT t ks d,b.kind<256
 | .nil,_,_,b,h=>by rw[List.mem_singleton.1 h];decide
 | .leaf k v,[],_,b,h=>by rw[List.mem_singleton.1 h];show(3:Nat)<256;decide
 | .leaf k v,_::_,_,b,h=>by rw[List.mem_singleton.1 h];show(1:Nat)<256;decide
 | .inner l r,[],_,b,h=>by rw[List.mem_singleton.1 h];show(3:Nat)<256;decide
 | .inner l r,k::ks,d,b,h=>by
  rcases List.mem_cons.1 h with rfl | h
  ·decide
  ·rcases List.mem_append.1 h with h | h
   ·exact xod l _ _ b h
   ·exact xod r _ _ b h
theorem xoe:∀ (t:Tre)(ks:List D32)(n d:Nat),d+n=256→t.Ok d→(skT t ks d).length≤1+2*(ks.length*n)
 | .nil,_,_,_,_,_=>by simp[skT]
 | .leaf k v,[],_,_,_,_=>by simp[skT]
 | .leaf k v,_::_,_,_,_,_=>by simp only[skT,List.length_singleton];omega
 | .inner l r,[],_,_,_,_=>by simp[skT]
 | .inner l r,k::ks,0,d,hd,h=>by have:=h.1;omega
 | .inner l r,k::ks,n+1,d,hd,h=>by
  have h1:=xoe l (loK d (k::ks)) n (d+1) (by omega) h.2.1;have h2:=xoe r (hiK d (k::ks)) n (d+1) (by omega) h.2.2.1;have e:=congrArg List.length (xb5 (fun k:D32=>!tb k.l d) (k::ks));rw[List.length_append] at e;have e2:(loK d (k::ks)).length*n+(hiK d (k::ks)).length*n=(k::ks).length*n:=by rw[← Nat.add_mul,e]
  have e3:(k::ks).length*(n+1)=(k::ks).length*n+(k::ks).length:=Nat.mul_succ _ _;have e4:1≤(k::ks).length:=by simp
  simp only[skT,qr,qp] at e2 e3 e4 h1 h2 ⊢;omega
theorem under_of{k t:D32}{d:Nat}(hd:d≤256)(h:∀ e,e<d→tb k.l e=tb t.l e):xdz k.l t.l (d:Int)=true:=by
 unfold xdz;have h1:d≤comm k.l t.l:=Nat.le_of_not_lt fun hlt=>xc1 k.l t.l (by omega) (h _ hlt)
 simp;omega
theorem flip_l(top:D32)(d:Nat):(xf3 top (d:Int)).l=xhi top.l d:=by simp only[xf3]
theorem clean_z:xcg Brv.z=true:=by decide
theorem clean_2:xcg ⟨2,D32.z,D32.z,D32.z⟩=true:=by decide
theorem clean_3(x:D32):xcg ⟨3,D32.z,D32.z,x⟩=true:=by simp[xcg,xpv]
theorem clean_1(k v:D32):xcg ⟨1,k,v,D32.z⟩=true:=by simp[xcg]
theorem pl_z(ks:List D32)(n:Nat)(rest:List Brv)(lo hi:Nat)(top:D32)(d:Nat):plM ks n (Brv.z::rest) lo hi top d=some (tagE,rest):=by
 unfold plM;rw[if_neg (by rw[clean_z];decide),if_pos (show Brv.z.kind=0 from rfl)]
theorem pl_3(ks:List D32)(n:Nat)(x:D32)(rest:List Brv)(lo hi:Nat)(top:D32)(d:Nat)(h : ¬ lo<hi):plM ks n (⟨3,D32.z,D32.z,x⟩::rest) lo hi top d=some (x,rest):=by
 unfold plM;rw[if_neg (by rw[clean_3];decide),if_neg (by decide : ¬ (3:Nat)=0),if_pos rfl,if_neg h]
theorem pl_1(ks:List D32)(n:Nat)(k v:D32)(rest:List Brv)(lo hi:Nat)(top:D32)(d:Nat)(h:lo<hi)(hu:xdz k.l top.l (d:Int)=true):plM ks n (⟨1,k,v,D32.z⟩::rest) lo hi top d=some (tagL k v,rest):=by
 unfold plM;rw[if_neg (by rw[clean_1];decide),if_neg (by decide : ¬ (1:Nat)=0),if_neg (by decide : ¬ (1:Nat)=3),if_pos rfl,if_pos ⟨h,hu⟩]
theorem pl_2(ks:List D32)(n:Nat)(rest r1 r2:List Brv)(lo hi:Nat)(top l r:D32)(d:Nat)(h:lo<hi)(hd:d<256)(h1:plM ks n rest lo (lo+xbd ((ks.drop lo).take (hi - lo)) d) top (d+1)=some (l,r1))
  (h2:plM ks n r1 (lo+xbd ((ks.drop lo).take (hi - lo)) d) hi (xf3 top d) (d+1)=some (r,r2)):plM ks (n+1) (⟨2,D32.z,D32.z,D32.z⟩::rest) lo hi top d=some (tagI l r,r2):=by
 rw[plM];rw[if_neg (by rw[clean_2];decide),if_neg (by decide : ¬ (2:Nat)=0),if_neg (by decide : ¬ (2:Nat)=3),if_neg (by decide : ¬ (2:Nat)=1),if_neg (by omega),h1];simp only[h2]
theorem xof(ks:List D32):∀ (t:Tre)(n d lo hi:Nat)(top:D32)(rest:List Brv),d+n=256→t.Ok d→lo≤hi→hi≤ks.length→(∀ k∈t.keys,∀ e,e<d→tb k.l e=tb top.l e)→(∀ e,d≤e→e<256→tb top.l e=false) →
  plM ks n (skT t ((ks.drop lo).take (hi - lo)) d++rest) lo hi top d=some (t.dg,rest)
 | .nil,n,d,lo,hi,top,rest,_,_,_,_,_,_=>pl_z ks n rest lo hi top d
 | .leaf k v,n,d,lo,hi,top,rest,hdn,hok,h1,h2,hk,hz=>by
  cases hs:(ks.drop lo).take (hi - lo) with
  | nil =>
   have hl:=congrArg List.length hs;simp only[List.length_take,List.length_drop,qs] at hl;exact pl_3 ks n _ rest lo hi top d (by omega)
  | cons a l =>
   have hl:=congrArg List.length hs;simp only[List.length_take,List.length_drop,qr] at hl;exact pl_1 ks n k (tagV v) rest lo hi top d (by omega) (under_of (by omega) (hk k (by simp[Tre.keys])))
 | .inner l r,n,d,lo,hi,top,rest,hdn,hok,h1,h2,hk,hz=>by
  obtain⟨hd,o1,o2,b1,b2,_⟩:=hok;have hp:=xen ((ks.drop lo).take (hi - lo)) d;have hlS:((ks.drop lo).take (hi - lo)).length=hi - lo:=by rw[List.length_take,List.length_drop];omega
  cases hs:(ks.drop lo).take (hi - lo) with
  | nil =>
   have hl:=congrArg List.length hs;simp only[List.length_take,List.length_drop,qs] at hl;exact pl_3 ks n _ rest lo hi top d (by omega)
  | cons a m =>
   have hl:=congrArg List.length hs;rw[hlS,List.length_cons] at hl;obtain⟨n',rfl⟩:∃ n',n=n'+1:=⟨n - 1,by omega⟩
   have e1:(ks.drop lo).take (lo+xbd ((ks.drop lo).take (hi - lo)) d - lo)=loK d (a::m):=by
    rw[← hs,← xte,List.take_take];congr 1;omega
   have e2:(ks.drop (lo+xbd ((ks.drop lo).take (hi - lo)) d)).take (hi - (lo+xbd ((ks.drop lo).take (hi - lo)) d))=hiK d (a::m):=by
    rw[← hs,← xtf,List.drop_take,List.drop_drop];congr 1;omega
   have r1:=xof ks l n' (d+1) lo (lo+xbd ((ks.drop lo).take (hi - lo)) d) top (skT r (hiK d (a::m)) (d+1)++rest) (by omega) o1 (by omega) (by omega) (fun k hm e he=>by
    by_cases hed:e=d
    ·subst hed;rw[b1 k hm,hz e (Nat.le_refl _) hd]
    ·exact hk k (List.mem_append.2 (.inl hm)) e (by omega)) (fun e h1 h2=>hz e (by omega) h2)
   rw[e1] at r1
   have r2:=xof ks r n' (d+1) (lo+xbd ((ks.drop lo).take (hi - lo)) d) hi (xf3 top d) rest (by omega) o2 (by omega) h2 (fun k hm e he=>by
    rw[flip_l,xpe top.l top.h d e hd (by omega)];by_cases hed:e=d
    ·subst hed;rw[if_pos rfl,b2 k hm,hz e (Nat.le_refl _) hd];rfl
    ·rw[if_neg hed];exact hk k (List.mem_append.2 (.inr hm)) e (by omega)) (fun e h1 h2=>by
    rw[flip_l,xpe top.l top.h d e hd h2,if_neg (by omega)]
    exact hz e (by omega) h2)
   rw[e2] at r2;have e3:skT (.inner l r) (a::m) d++rest=⟨2,D32.z,D32.z,D32.z⟩::(skT l (loK d (a::m)) (d+1)++(skT r (hiK d (a::m)) (d+1)++rest)):=by simp[skT]
   rw[e3];exact pl_2 ks n' _ _ _ lo hi top _ _ d (by omega) hd r1 r2
theorem tb_z(e:Nat)(he:e<256):tb D32.z.l e=false:=by
 have:∀ e:Fin 256,tb D32.z.l e.1=false:=by decide +kernel
 exact this ⟨e,he⟩
theorem sk_quick(ks:List D32)(t:Tre)(h:t.Ok 0)(hr:riseB ks=true)(hn:ks.length≤8):rdQ ks (skT t ks 0)=some t.dg:=by
 have h1:=xof ks t 256 0 0 ks.length D32.z [] rfl h (Nat.zero_le _) (Nat.le_refl _) (fun k _ e he=>absurd he (Nat.not_lt_zero _)) (fun e _ he=>tb_z e he);have e:(ks.drop 0).take (ks.length - 0)=ks:=by simp
 rw[e,List.append_nil] at h1;have hl:=xoe t ks 256 0 rfl h;unfold rdQ rdM;rw[if_pos hr,if_neg (by omega),h1]
def putK(es:List Ent)(k:D32)(v:LU):List Ent :=
 if (es.map Prod.fst)[(es.takeWhile fun p=>decide (nOf p.1.l<nOf k.l)).length]? = some k then es else es.take (es.takeWhile fun p=>decide (nOf p.1.l<nOf k.l)).length++(k,v)::es.drop (es.takeWhile fun p=>decide (nOf p.1.l<nOf k.l)).length
def updT:Nat→Nat→Tre→List Ent→Tre
 | n,d,.nil,es=>xak n d es
 | n,d,.leaf k v,es=>if es = [] then .leaf k v else xak n d (putK es k v)
 | 0,_,.inner l r,_=>.inner l r
 | n+1,d,.inner l r,es=>if es = [] then .inner l r else .inner (updT n (d+1) l (loE d es)) (updT n (d+1) r (hiE d es))
theorem d32_inj{a b:D32}(h:nOf a.l=nOf b.l):a=b:=D32.ext (xjk (by rw[a.h,b.h]) h)
theorem split_lt(es:List Ent)(k:D32)(hr:Rise es):∃ A B,es=A++B∧A=es.takeWhile (fun p=>decide (nOf p.1.l<nOf k.l))∧(∀ p∈A,nOf p.1.l<nOf k.l)∧(∀ p∈B,nOf k.l≤nOf p.1.l):=by
 refine⟨_,es.dropWhile fun p=>decide (nOf p.1.l<nOf k.l),(xb5 _ es).symm,rfl,fun p hp=>?_,fun p hp=>?_⟩
 ·have:=List.all_eq_true.1 (List.all_takeWhile (p:=fun p:Ent=>decide (nOf p.1.l<nOf k.l)) (l:=es)) p hp
  simpa using this
 ·have hsub:=List.dropWhile_sublist (fun p:Ent=>decide (nOf p.1.l<nOf k.l)) (l:=es)
  cases hB:es.dropWhile fun p=>decide (nOf p.1.l<nOf k.l) with
  | nil=>rw[hB] at hp;cases hp
  | cons b B =>
   have h0 : ¬ nOf b.1.l<nOf k.l:=by
    have h2:=List.head_dropWhile_not (fun p:Ent=>decide (nOf p.1.l<nOf k.l)) (l:=es) (by rw[hB];simp);simp only[hB,List.head_cons] at h2;simpa using h2
   rw[hB] at hp hsub;have hrB:=hr.sublist hsub;rcases List.mem_cons.1 hp with rfl | hp
   ·omega
   ·have:=(List.pairwise_cons.1 hrB).1 p hp
    omega
theorem xmq(es:List Ent)(k:D32)(v:LU)(hr:Rise es):Rise (putK es k v)∧(∀ p,p∈putK es k v↔(p∈es∨(k∉es.map Prod.fst∧p=(k,v))))∧(putK es k v).length≤es.length+1:=by
 obtain⟨A,B,he,hA,h1,h2⟩:=split_lt es k hr;have hget:(es.map Prod.fst)[A.length]? = (B.map Prod.fst)[0]? := by rw[he,List.map_append,List.getElem?_append_right (by simp)];simp
 have hmem:k∈es.map Prod.fst↔(B.map Prod.fst)[0]? = some k:=by
  constructor
  ·intro hm
   obtain⟨p,hp,hpk⟩:=List.mem_map.1 hm;rw[he] at hp;rcases List.mem_append.1 hp with hp | hp
   ·have:=h1 p hp;rw[hpk] at this;omega
   ·cases B with
    | nil=>cases hp
    | cons b B =>
     rcases List.mem_cons.1 hp with rfl | hp
     ·simp[hpk]
     ·have hrB:Rise (b::B):=by unfold Rise at hr ⊢;rw[he] at hr;exact(List.pairwise_append.1 hr).2.1
      have h3:=(List.pairwise_cons.1 hrB).1 p hp;have h4:=h2 b (by simp);rw[hpk] at h3;omega
  ·intro hm
   rw[← hget] at hm;exact List.mem_of_getElem? hm
 unfold putK;rw[← hA,hget];have htk:es.take A.length=A∧es.drop A.length=B:=xgl A B es he.symm
 split
 ·next h =>
  have hm:=hmem.2 h;exact⟨hr,fun p=>⟨fun h=>.inl h,fun h=>h.elim id fun h=>absurd hm h.1⟩,by omega⟩
 ·next h =>
  have hm:k∉es.map Prod.fst:=fun hm=>h (hmem.1 hm)
  rw[htk.1,htk.2];have hr2:=hr;unfold Rise at hr2;rw[he] at hr2;obtain⟨q1,q2,q3⟩:=List.pairwise_append.1 hr2;refine⟨List.pairwise_append.2 ⟨q1,List.pairwise_cons.2 ⟨fun p hp=>?_,q2⟩,fun p hp q hq=>?_⟩,fun p=>?_,by rw[he];simp;omega⟩
  ·have h3:=h2 p hp
   rcases Nat.lt_or_eq_of_le h3 with h4 | h4
   ·exact h4
   ·exact absurd (List.mem_map.2 ⟨p,by rw[he];exact List.mem_append.2 (.inr hp),(d32_inj h4).symm⟩) hm
  ·rcases List.mem_cons.1 hq with rfl | hq
   ·exact h1 p hp
   ·exact q3 p hp q hq
  ·rw[he]
   simp only[List.mem_append,List.mem_cons];constructor
   ·rintro(h | rfl | h)
    ·exact .inl (.inl h)
    ·exact .inr ⟨by rw[← he];exact hm,rfl⟩
    ·exact .inl (.inr h)
   ·rintro((h | h) | ⟨_,rfl⟩)
    ·exact .inl h
    ·exact .inr (.inr h)
    ·exact .inr (.inl rfl)
def AlkE(d:Nat)(es:List Ent):Prop:=∀ p∈es,∀ q∈es,∀ e,e<d→tb p.1.l e=tb q.1.l e
theorem xj2{d:Nat}{es:List Ent}(h:AlkE d es):AlkE (d+1) (loE d es):=fun p hp q hq e he=>by
 by_cases hed:e=d
 ·subst hed;rw[xdt p hp,xdt q hq]
 ·exact h p ((List.takeWhile_sublist _).subset hp) q ((List.takeWhile_sublist _).subset hq) e (by omega)
theorem xog{d:Nat}{es:List Ent}(hd:d<256)(hr:Rise es)(h:AlkE d es):AlkE (d+1) (hiE d es):=fun p hp q hq e he=>by
 by_cases hed:e=d
 ·subst hed;rw[xew hd hr h p hp,xew hd hr h q hq]
 ·exact h p ((List.dropWhile_sublist _).subset hp) q ((List.dropWhile_sublist _).subset hq) e (by omega)
theorem xtg:∀ (n d:Nat)(t:Tre)(es:List Ent),t.isIn=true→(updT n d t es).isIn=true
 | _,_,.nil,_,h=>by cases h
 | _,_,.leaf k v,_,h=>by cases h
 | 0,_,.inner l r,_,_=>rfl
 | n+1,d,.inner l r,es,_=>by unfold updT;split<;>rfl
theorem xvk:∀ (n d:Nat)(t:Tre),updT n d t []=t
 | n,d,.nil=>by unfold updT;cases n<;>rfl
 | _,_,.leaf k v=>by unfold updT;rfl
 | 0,_,.inner l r=>rfl
 | n+1,d,.inner l r=>by unfold updT;rw[if_pos rfl]
structure UpS (d:Nat)(t:Tre)(es:List Ent)(t':Tre):Prop where
 ok:t'.Ok d
 sp:∀ p,p∈t'.ents↔(p∈es∨(p.1∉es.map Prod.fst∧p∈t.ents))
theorem ups_nil{d:Nat}{t t':Tre}{fs:List Ent}(ho:t.Ok d)(hu:UpS d t fs t')(hk:t'.keys = []):t=.nil:=by
 refine xcf ho (List.eq_nil_iff_forall_not_mem.2 fun k hm=>?_);obtain⟨v,hv⟩:=xcl hm
 have he:∀ p:Ent,p∉t'.ents:=fun p hp=>by
  have:=xbs hp;rw[hk] at this;cases this
 by_cases hkf:k∈fs.map Prod.fst
 ·obtain⟨q,hq,_⟩:=List.mem_map.1 hkf
  exact he q ((hu.sp q).2 (.inl hq))
 ·exact he (k,v) ((hu.sp (k,v)).2 (.inr ⟨hkf,hv⟩))
theorem xrr:∀ (t:Tre)(n d:Nat)(es:List Ent),d+n=256→t.Ok d→Rise es→AlkE d es→(∀ p∈es,∀ k∈t.keys,∀ e,e<d→tb p.1.l e=tb k.l e)→(∀ p∈es,p.2.length≤1024)→UpS d t es (updT n d t es)
 | .nil,n,d,es,hd,_,hr,ha,_,hv=>by
  have hP:=xcv n d es hd hr ha;have e:updT n d .nil es=xak n d es:=by cases n<;>rfl
  rw[e];refine⟨xdj n d es hd hP hv ha,fun p=>?_⟩;rw[xc7 n d es hd hP hv ha];simp[Tre.ents]
 | .leaf k v,n,d,es,hd,hok,hr,ha,hn,hv=>by
  have e:updT n d (.leaf k v) es=if es = [] then .leaf k v else xak n d (putK es k v):=by cases n<;>rfl
  rw[e]
  split
  ·next h=>subst h;exact⟨hok,fun p=>by simp⟩
  ·next h =>
   obtain⟨p1,p2,_⟩:=xmq es k v hr;have hk:∀ p∈es,∀ e,e<d→tb p.1.l e=tb k.l e:=fun p hp e he=>hn p hp k (by simp[Tre.keys]) e he
   have ha2:AlkE d (putK es k v):=fun p hp q hq e he=>by
    have hx:∀ p∈putK es k v,tb p.1.l e=tb k.l e:=fun p hp=>by
     rcases (p2 p).1 hp with h | ⟨_,rfl⟩
     ·exact hk p h e he
     ·rfl
    rw[hx p hp,hx q hq]
   have hv2:∀ p∈putK es k v,p.2.length≤1024:=fun p hp=>by
    rcases (p2 p).1 hp with h | ⟨_,rfl⟩
    ·exact hv p h
    ·exact hok.1
   have hP:=xcv n d _ hd p1 ha2;refine⟨xdj n d _ hd hP hv2 ha2,fun p=>?_⟩;rw[xc7 n d _ hd hP hv2 ha2,p2 p];simp only[Tre.ents,List.mem_singleton];constructor
   ·rintro(h | ⟨h,rfl⟩)
    ·exact .inl h
    ·exact .inr ⟨h,rfl⟩
   ·rintro(h | ⟨h,rfl⟩)
    ·exact .inl h
    ·exact .inr ⟨h,rfl⟩
 | .inner l r,0,d,es,hd,hok,_,_,_,_=>by have:=hok.1;omega
 | .inner l r,n+1,d,es,hd,hok,hr,ha,hn,hv=>by
  unfold updT
  split
  ·next h=>subst h;exact⟨hok,fun p=>by simp⟩
  ·next h =>
   obtain⟨hd2,o1,o2,b1,b2,hall,e1,e2⟩:=id hok;have sL:∀ p∈loE d es,p∈es:=fun p hp=>(List.takeWhile_sublist _).subset hp
   have sH:∀ p∈hiE d es,p∈es:=fun p hp=>(List.dropWhile_sublist _).subset hp
   have bL:=xdt (d:=d) (es:=es);have bH:=xew hd2 hr ha
   have u1:=xrr l n (d+1) (loE d es) (by omega) o1 (hr.sublist (List.takeWhile_sublist _)) (xj2 ha) (fun p hp k hk e he=>by
    by_cases hed:e=d
    ·subst hed;rw[bL p hp,b1 k hk]
    ·exact hn p (sL p hp) k (List.mem_append.2 (.inl hk)) e (by omega)) (fun p hp=>hv p (sL p hp))
   have u2:=xrr r n (d+1) (hiE d es) (by omega) o2 (hr.sublist (List.dropWhile_sublist _)) (xog hd2 hr ha) (fun p hp k hk e he=>by
    by_cases hed:e=d
    ·subst hed;rw[bH p hp,b2 k hk]
    ·exact hn p (sH p hp) k (List.mem_append.2 (.inr hk)) e (by omega)) (fun p hp=>hv p (sH p hp))
   have hin1:l.isIn=true→(updT n (d+1) l (loE d es)).isIn=true:=xtg n (d+1) l _;have hin2:r.isIn=true→(updT n (d+1) r (hiE d es)).isIn=true:=xtg n (d+1) r _;generalize updT n (d+1) l (loE d es)=l' at *;generalize updT n (d+1) r (hiE d es)=r' at *
   have hsp:∀ p,p∈es↔(p∈loE d es∨p∈hiE d es):=fun p=>by
    rw[← List.mem_append,xb5]
   have kL:∀ k∈l'.keys,tb k.l d=false:=fun k hk=>by
    obtain⟨v,hv⟩:=xcl hk;rcases (u1.sp _).1 hv with h | ⟨_,h⟩
    ·exact bL _ h
    ·exact b1 k (xbs h)
   have kR:∀ k∈r'.keys,tb k.l d=true:=fun k hk=>by
    obtain⟨v,hv⟩:=xcl hk;rcases (u2.sp _).1 hv with h | ⟨_,h⟩
    ·exact bH _ h
    ·exact b2 k (xbs h)
   have hne:∀ {t t':Tre} {fs:List Ent},t.Ok (d+1)→UpS (d+1) t fs t'→t'.keys = []→t=.nil:=fun ho hu hk=>ups_nil ho hu hk
   refine⟨⟨hd2,u1.ok,u2.ok,kL,kR,fun k hk k' hk' e he=>?_,fun hk=>?_,fun hk=>?_⟩,fun p=>?_⟩
   ·have hx:∀ k∈l'.keys++r'.keys,∀ p∈es,tb k.l e=tb p.1.l e:=fun k hk p hp=>by
     have hm:(∃ q∈es,q.1=k)∨k∈l.keys++r.keys:=by
      rcases List.mem_append.1 hk with hk | hk
      ·obtain⟨v,hv⟩:=xcl hk
       rcases (u1.sp _).1 hv with h | ⟨_,h⟩
       ·exact .inl ⟨_,sL _ h,rfl⟩
       ·exact .inr (List.mem_append.2 (.inl (xbs h)))
      ·obtain⟨v,hv⟩:=xcl hk
       rcases (u2.sp _).1 hv with h | ⟨_,h⟩
       ·exact .inl ⟨_,sH _ h,rfl⟩
       ·exact .inr (List.mem_append.2 (.inr (xbs h)))
     rcases hm with⟨q,hq,rfl⟩ | hm
     ·exact ha q hq p hp e he
     ·exact(hn p hp k hm e he).symm
    obtain⟨p,hp⟩:=List.exists_mem_of_ne_nil es h;rw[hx k hk p hp,hx k' hk' p hp]
   ·have hl:=hne o1 u1 hk
    subst hl;exact⟨hin2 (e1 rfl).1,xcf u1.ok hk⟩
   ·have hl:=hne o2 u2 hk
    subst hl;exact⟨hin1 (e2 rfl).1,xcf u2.ok hk⟩
   ·show p∈l'.ents++r'.ents↔_
    rw[List.mem_append,u1.sp,u2.sp,hsp p]
    have hx1:p∈l.ents→(p.1∉(loE d es).map Prod.fst↔p.1∉es.map Prod.fst):=fun hp=>by
     have hb:=b1 _ (xbs hp);refine not_congr ⟨fun hm=>?_,fun hm=>?_⟩
     ·obtain⟨q,hq,e⟩:=List.mem_map.1 hm
      exact List.mem_map.2 ⟨q,sL q hq,e⟩
     ·obtain⟨q,hq,e⟩:=List.mem_map.1 hm
      rcases (hsp q).1 hq with h | h
      ·exact List.mem_map.2 ⟨q,h,e⟩
      ·have:=bH q h
       rw[e,hb] at this;cases this
    have hx2:p∈r.ents→(p.1∉(hiE d es).map Prod.fst↔p.1∉es.map Prod.fst):=fun hp=>by
     have hb:=b2 _ (xbs hp);refine not_congr ⟨fun hm=>?_,fun hm=>?_⟩
     ·obtain⟨q,hq,e⟩:=List.mem_map.1 hm
      exact List.mem_map.2 ⟨q,sH q hq,e⟩
     ·obtain⟨q,hq,e⟩:=List.mem_map.1 hm
      rcases (hsp q).1 hq with h | h
      ·have:=bL q h
       rw[e,hb] at this;cases this
      ·exact List.mem_map.2 ⟨q,h,e⟩
    show _↔_∨(_∧p∈l.ents++r.ents);rw[List.mem_append];constructor
    ·rintro((h | ⟨h,h3⟩) | (h | ⟨h,h3⟩))
     ·exact .inl (.inl h)
     ·exact .inr ⟨(hx1 h3).1 h,.inl h3⟩
     ·exact .inl (.inr h)
     ·exact .inr ⟨(hx2 h3).1 h,.inr h3⟩
    ·rintro((h | h) | ⟨h,h3 | h3⟩)
     ·exact .inl (.inl h)
     ·exact .inr (.inl h)
     ·exact .inl (.inr ⟨(hx1 h3).2 h,h3⟩)
     ·exact .inr (.inr ⟨(hx2 h3).2 h,h3⟩)
theorem xlb:∀ (n d:Nat)(es:List Ent),d+n=256→xgg n d es→(∀ p∈es,p.2.length≤1024)→AlkE d es→2≤es.length→(xak n d es).isIn=true
 | _,_,[],_,_,_,_,h=>by simp at h
 | n,d,[x],_,_,_,_,h=>by simp at h
 | 0,d,x::y::l,_,h,_,_,_=>h.elim
 | n+1,d,x::y::l,hd,⟨hb,h1,h2⟩,hv,hs,_=>by
  have sa:AlkE (d+1) ((x::y::l).takeWhile fun p=>!tb p.1.l d):=xj2 hs
  have sb:AlkE (d+1) ((x::y::l).dropWhile fun p=>!tb p.1.l d):=fun p hp q hq e he=>by
   by_cases hed:e=d
   ·subst hed;rw[hb p hp,hb q hq]
   ·exact hs p ((List.dropWhile_sublist _).subset hp) q ((List.dropWhile_sublist _).subset hq) e (by omega)
  have hsT:∀ p∈(x::y::l).takeWhile (fun p=>!tb p.1.l d),p∈x::y::l:=fun p hp=>(List.takeWhile_sublist _).subset hp
  have hsD:∀ p∈(x::y::l).dropWhile (fun p=>!tb p.1.l d),p∈x::y::l:=fun p hp=>(List.dropWhile_sublist _).subset hp
  have e:xak (n+1) d (x::y::l)=xb1 (xak n (d+1) ((x::y::l).takeWhile fun p=>!tb p.1.l d)) (xak n (d+1) ((x::y::l).dropWhile fun p=>!tb p.1.l d)):=rfl;have e3:=congrArg List.length (xb5 (fun p:Ent=>!tb p.1.l d) (x::y::l));rw[e];generalize (x::y::l).takeWhile (fun p=>!tb p.1.l d)=a at *;generalize (x::y::l).dropWhile (fun p=>!tb p.1.l d)=b at *;have va:∀ p∈a,p.2.length≤1024:=fun p hp=>hv p (hsT p hp)
  have vb:∀ p∈b,p.2.length≤1024:=fun p hp=>hv p (hsD p hp)
  have ea:=xc7 n (d+1) a (by omega) h1 va sa;have eb:=xc7 n (d+1) b (by omega) h2 vb sb
  have hkne:∀ {c:List Ent},(xak n (d+1) c).ents=c→(xak n (d+1) c).keys = []→c = []:=fun h hk=>by
   rw[← h];refine List.eq_nil_iff_forall_not_mem.2 fun p hp=>?_
   have:=xbs hp;rw[hk] at this;cases this
  simp only[qp,qr] at e3;unfold xb1
  split
  ·next h =>
   have:=hkne ea h.1;subst this;rw[List.length_nil] at e3;exact xlb n (d+1) b (by omega) h2 vb sb (by omega)
  ·split
   ·next h =>
    have:=hkne eb h.1;subst this;rw[List.length_nil] at e3;exact xlb n (d+1) a (by omega) h1 va sa (by omega)
   ·rfl
theorem xvl(n d:Nat)(es:List Ent)(hd:d+(n+1)=256)(hr:Rise es)(ha:AlkE d es)(hv:∀ p∈es,p.2.length≤1024)(h2:2≤es.length):(xak (n+1) d es).dg=tagI (xak n (d+1) (loE d es)).dg (xak n (d+1) (hiE d es)).dg:=by
 have hin:=xlb (n+1) d es hd (xcv _ _ _ hd hr ha) hv ha h2
 match es,h2 with
 | x::y::l,_ =>
  have e:xak (n+1) d (x::y::l)=xb1 (xak n (d+1) (loE d (x::y::l))) (xak n (d+1) (hiE d (x::y::l))):=rfl;rw[e] at hin ⊢;unfold xb1 at hin ⊢
  split at hin
  ·next h=>rw[h.2] at hin;cases hin
  ·next h1 =>
   rw[if_neg h1]
   split at hin
   ·next h=>rw[h.2] at hin;cases hin
   ·next h2=>rw[if_neg h2];rfl
theorem upd_uniq{t t1 t2:Tre}{es:List Ent}(h1:UpS 0 t es t1)(h2:UpS 0 t es t2):t1=t2:=xip h1.ok h2.ok fun p=>by rw[h1.sp,h2.sp]
end Go.Proofs.YtkjjdgnkelchfaaGreat
