import Derived.Test.YtkjjdgnkelchfaaGreatPNU4
set_option linter.unusedSimpArgs false
set_option linter.unusedVariables false
set_option maxRecDepth 100000
set_option maxHeartbeats 16000000
namespace Go.Proofs.YtkjjdgnkelchfaaGreat
open Go Go.RowKit Go.Proofs.Tryz
theorem xt5{P:Program}{w:World}{a:Act}{o:Oper}{t t':TypeId}(x y:Operand)(ho:o.op=.binOp .and t x y t')(m n r:Nat)(hx:a.eval x=.int .u64 (m:Int))(hy:a.eval y=.int .u64 (n:Int))(hm:m<18446744073709551616)(hn:n<18446744073709551616)(hr:m &&& n=r) :
  (execOp a.eval o).run P w=.ok (.value (.int .u64 (r:Int))) w:=by
 subst hr;unfold execOp;simp only[ho,hx,hy];go_simp;rw[u64_and_nat _ _ hm hn]
theorem and_low(T:Nat):T &&& 4294967295=T%4294967296:=Nat.and_two_pow_sub_one_eq_mod T 32
theorem xkh(x:Nat)(u:World)(hx:x<4294967296) :
  Calls prog 77 #[iV x] u fun e w'=>∃ A c,e=.returned (.tuple #[.slice A 4 c,iV 0])∧OwnB w' u.heap.size 5 (.slice A 4 c) (be 4 x)∧Bw u w':=by
 have e1:putE 4294967295 (x:Int)=0:=by unfold putE;rw[if_pos (by omega)]
 have e2:putL 4 4294967295 (x:Int)=be 4 x:=by unfold putL;rw[if_pos (by omega),Int.toNat_natCast]
 refine(put32 (x:Int) u (by omega)).mono ?_;rintro e w' ⟨v,rfl,ho,hw⟩;rw[e1,e2] at *;obtain⟨A,c,rfl,_⟩:=ho.rd;rw[xca] at ho ⊢;exact⟨A,c,rfl,ho,hw⟩
theorem OwnB.lft{w:World}{base E g:Nat}{A:Option Addr}{n c:Nat}{l:LU}(h:OwnB w base E (.slice A n c) l)(hg:g<base):Lft (· = g) w A n c l:=by
 obtain⟨A',c',e,h1,h2,h3⟩:=h.rd;injection e with e1 e2 e3;subst e1;subst e3;refine⟨e2.symm,by omega,h2,h3,?_⟩;intro ad had e;rcases h with⟨h,_⟩ | ⟨g',sp,h,hb,_⟩
 ·injection h with h _ _
  rw[had] at h;cases h
 ·injection h with h _ _
  rw[had] at h;cases h;simp at e;omega
theorem xm5{w:World}{g:Nat}(x:UInt8)(v:Value)(hv:bv x=v)(hg:g<w.heap.size):Lft (· = g) (w.alloc (.cells #[v] 5)) (some ⟨w.heap.size,0,none⟩) 1 1 [x] :=
 ⟨rfl,Nat.le_refl _,by decide,one_new w x v hv,by intro ad h e;cases h;simp at e;omega⟩
theorem xki{S:Nat→Prop}{a b:World}{B:Nat}(h:Fr S a b)(hS:∀ k,S k→B≤k)(hB:B≤a.heap.size):Below B a b :=
 ⟨h.os,h.tape,h.output,h.size,fun k hk=>h.block k (by omega) (fun hs=>by have:=hS k hs;omega)⟩
def allOf(w:World)(g:Nat):Nat:=match w.cell? ⟨g,74,none⟩ with
 | some (.int _ z)=>z.toNat
 | _=>0
theorem St.all{w:World}{g:Nat}{m:LU}(h:St w g m):allOf w g=m.length:=by
 obtain⟨b,hs,hb⟩:=h;unfold allOf;rw[hb.atA (xcu m) hs.1];simp
structure SumS (N g:Nat)(w wr:World)(m:LU):Prop where
 bel:Below N w wr
 out:Blk wr N 23 (bvs (zb 32))
 st:St wr g m
 lt:N<g
theorem SumS.write{N g:Nat}{w wr w2:World}{m m2:LU}(h:SumS N g w wr m)(hf:Fr (· = g) wr w2)(hs:St w2 g m2):SumS N g w w2 m2 :=
 ⟨h.bel.trans (xki hf (fun k e=>by rw[e];exact Nat.le_of_lt h.lt) (Nat.le_of_lt h.out.lt)),h.out.fr hf (fun e=>by have:=h.lt;omega),hs,h.lt⟩
theorem SumS.below{N g:Nat}{w wr w2:World}{m:LU}(h:SumS N g w wr m)(hb:Bw wr w2):SumS N g w w2 m :=
 ⟨h.bel.trans (hb.mono (Nat.le_of_lt h.out.lt)),h.out.below hb h.out.lt,h.st.below hb,h.lt⟩
theorem SumS.alloc{N g:Nat}{w wr:World}{m:LU}(h:SumS N g w wr m)(o:Obj):SumS N g w (wr.alloc o) m:=h.below ((Below.refl _ _).alloc (Nat.le_refl _) o)
theorem xie(g:Nat)(m:LU)(A:Option Addr)(c:Nat)(y:UInt8)(w:World)(h:St w g m)(hx:Lft (· = g) w A 1 c [y])(hb:m.length+1≤4611686018427387904) :
  Calls prog 158 #[pG g,.slice A 1 c] w fun e w'=>e=.returned (iV 1)∧St w' g (m++[y])∧Fr (· = g) w w':=xe7 g m A 1 c [y] w h rfl (fun _=>hx) hb
theorem xql(a y:LU)(k:Nat):splice (bvs a) k (bvs y)=bvs (splice a k y):=by
 unfold splice bvs;simp[List.map_take,List.map_drop]
theorem xt6(g:Nat)(m:LU)(w:World)(h:St w g m)(hb:m.length≤1152921504606846976) :
  Calls prog 159 #[pG g] w (oB w (arr8 (shaL m))):=by
 obtain⟨b,hs,hblk⟩:=h;have C:=fun(u:World) (hu:u.cell? ⟨g,0,none⟩=some (.bool true))=>hZ (xr4 g u hu)
 have HHL:=hZ (xcu m);have hcl:Hid ((stC (hOf m) b (m.length%64) m.length).length=75):=hZ (xdm HHL.out hs.1);have h1:=stC_one (hOf m) b (m.length%64) m.length;have HF:Hid (∀ (w':World)(g':Nat),Blk w' g' 324 (stC (hOf m) b (m.length%64) m.length)→St w' g' m):=hZ (fun w' g' h=>⟨b,hs,h⟩);have hb0:Blk (w.alloc (.cells (bvs (zb 32)).toArray 23)) g 324 (stC (hOf m) b (m.length%64) m.length):=hblk.alloc _;have hc0:=hZ (hb0.at0);refine X1c ?_;intro hbz;refine X1d ?_;intro hw0;have HPA:Hid ((hOf (pad m)).flatMap (be 4)=shaL m):=hZ rfl;clear hs hblk;generalize stC (hOf m) b (m.length%64) m.length=cs at *;generalize shaL m=res at *;unfold arr8;go_enter func159,ntmps159;go_upto_region 1 with fail;generalize hW:World.alloc w _=w0
 have h3:Blk w0 g 324 cs∧Hid (w0.cell? ⟨g,0,none⟩=some (.bool true))∧Blk w0 w.heap.size 23 (bvs (zb 32))∧Bw w w0:=by rw[← hW];exact⟨hb0,hc0,hbz,hw0⟩
 clear hb0 hc0 hbz hw0 hW;obtain⟨hb0,hc0,hbz,hw0⟩:=h3
 go_upto_region 3 with(first
  | (go_at_call 215;with_reducible refine(C _ hc0.out).out.mono ?_;rintro e w1 ⟨rfl,rfl⟩))
 have hz0:Blk (w0.alloc (.cells zeroCells324 324)) w0.heap.size 324 zst:=by rw[zero128];exact Blk.new _ _ _
 have hz1:Blk (w0.alloc (.cells zeroCells324 324)) w.heap.size 23 (bvs (zb 32)):=hbz.alloc _;have hz2:Below w.heap.size w (w0.alloc (.cells zeroCells324 324)):=hw0.alloc (Nat.le_of_lt hbz.lt) _;refine X14 ?_;refine xaa rfl _ (xba at128 (.tmp 18) rfl g 324 cs rfl hb0 hcl.out) ?_;refine X6 ?_;refine wpList_plain rfl fun K hK=>?_;go_simp
 refine Xv ?_;clear hK;refine xal at128.i rfl (.tmp 3) (.tmp 19) rfl w0.heap.size 0 324 zst cs rfl rfl hz0 hcl.out (by rw[xkf];exact Nat.le_refl 75) h1 ?_;intro w2 hb2 hg2 hs2;refine X17 ?_;rw[xbx _ _ (by rw[xkf,hcl.out])] at hb2;have hlt0:=hbz.lt;have s2:SumS w.heap.size w0.heap.size w w2 m:=⟨hz2.grown hg2 hz2.size (by intro k hk;cases hk;omega),hz1.grown hg2 (by simp;omega),HF.out _ _ hb2,hlt0⟩;clear HF hz0 hz1 hz2 hb2 hg2 hs2 hb0 hc0 hbz hw0 C HHL;generalize w0.heap.size=G at *;obtain⟨b2,hsb2,hblk2⟩:=s2.st;have hA:=hZ (hblk2.atA (xcu m) hsb2.1);clear hblk2 hsb2 b2;obtain⟨T,hT⟩:∃ T,8*m.length=T:=⟨_,rfl⟩;have HT:=hZ hT;have HTB:Hid ((m.length:Int)*8=(T:Int)):=hZ (by omega);have hTb:T≤9223372036854775808:=by omega
 clear hT;go_upto_region 4 with fail;refine Xt ?_;refine xaa rfl _ (xm3 _ rfl G rfl) ?_;refine X6 ?_;refine xaa rfl _ (xc3 _ rfl _ _ rfl hA.out) ?_;refine X6 ?_;refine xaa rfl _ (xd8 underlying3 underlying308 _ rfl .i64 (m.length:Int) (m.length:Int) rfl rfl (by rw[IntKind.wrap_u64];omega)) ?_;refine X6 ?_;refine xaa rfl _ (xtz _ _ rfl (m.length:Int) 8 (T:Int) rfl rfl HTB.out (by have:=HTB.out;omega)) ?_;refine X1a ?_;go_upto_region 5 with fail;have s3:=s2.alloc (.cells #[.int .u8 128] 5);have hG2:=s2.st.lt;refine Xt ?_;refine wpList_plain rfl fun K hK=>?_;go_simp
 refine Xv ?_;clear hK;refine wpList_plain rfl fun K hK=>?_;go_simp
 (with_reducible refine(xie G m (some ⟨w2.heap.size,0,none⟩) 1 128 _ s3.st (xm5 128 _ rfl hG2) (by omega)).mono ?_);rintro e w4 ⟨rfl,hs4,hf4⟩;refine hK _ _ ?_;clear hK;refine X17 ?_;have s4:SumS w.heap.size G w w4 (xez m 0):=s3.write hf4 hs4;clear s2 s3 hs4 hf4 hA hG2;go_wp2_with fail;have hz64:padz m.length<64:=padz_lt _
 go_loopw [26] (fun _ wr=>∃ j:Nat,j≤padz m.length∧SumS w.heap.size G w wr (xez m j)) (fun _ wr=>m.length+65 - allOf wr G)
 case atStart=>exact⟨0,by omega,s4⟩
 case round =>
  clear s4;obtain⟨j,hj,s4⟩:=hrel;obtain⟨b3,hsb3,hblk3⟩:=s4.st;obtain⟨r,hr1⟩:∃ r,(m.length+1+j)%64=r:=⟨_,rfl⟩;have hst:=xqi m.length j hj;rw[hr1] at hst;have hcn:=hblk3.atN (xcu _) hsb3.1;rw[xdy,hr1] at hcn;have HC:=hZ hcn;have hall:=hZ (s4.st.all);rw[xdy] at hall;have hG4:=s4.st.lt;clear hblk3 hsb3 b3 hr1 hcn;by_cases hjl:j=padz m.length
  ·obtain rfl:r=56:=hst.2 hjl
   subst hjl;clear hst hj;obtain⟨hi,hhi⟩:∃ hi,T / 4294967296=hi:=⟨_,rfl⟩;obtain⟨lo,hlo⟩:∃ lo,T%4294967296=lo:=⟨_,rfl⟩;have hhib:hi<4294967296:=by omega
   have hlob:lo<4294967296:=by omega
   have HHI:Hid (IntKind.i64.wrap ((T / 4294967296:Nat):Int)=(hi:Int)):=hZ (by rw[hhi];exact IntWalk.i64_in _ (by omega));have HLO:Hid (T &&& 4294967295=lo):=hZ (by rw[and_low];exact hlo);have HLW:Hid (IntKind.i64.wrap (lo:Int)=(lo:Int)):=hZ (IntWalk.i64_in _ (by omega));have HPAD:Hid ((xez m (padz m.length)++be 4 hi)++be 4 lo=pad m):=hZ (by rw[List.append_assoc,← hhi,← hlo,← be_split,← HT.out];exact xtw m);have HPL:Hid ((xez m (padz m.length)).length=m.length+1+padz m.length):=hZ (xdy _ _);have P1:=fun u=>hZ (xkh hi u hhib)
   have P2:=fun u=>hZ (xkh lo u hlob)
   clear hhi hlo;generalize xez m (padz m.length)=q at *
   go_upto_region 8 with(first
    | ((with_reducible refine xa4 27 ?_);refine xaa rfl _ (xc3 _ rfl _ _ rfl HC.out) ?_))
   go_upto_region 10 with(first
    | ((with_reducible refine xa4 33 ?_);refine xaa rfl _ (xt0 _ _ rfl T 32 _ rfl rfl (by decide) 4294967296 rfl) ?_)
    | ((with_reducible refine xa4 34 ?_);refine xaa rfl _ (xd8 underlying308 underlying2 _ rfl .u64 _ (hi:Int) rfl rfl HHI.out) ?_)
    | ((with_reducible refine xa4 40 ?_);refine xaa rfl _ (xt5 _ _ rfl T 4294967295 lo rfl rfl (by omega) (by decide) HLO.out) ?_)
    | ((with_reducible refine xa4 41 ?_);refine xaa rfl _ (xd8 underlying308 underlying2 _ rfl .u64 (lo:Int) (lo:Int) rfl rfl HLW.out) ?_)
    | (go_at_call 77;with_reducible refine(P1 _).out.mono ?_;rintro e w5 ⟨A5,c5,rfl,ho5,hw5⟩)
    | (go_at_call 77;with_reducible refine(P2 _).out.mono ?_;rintro e w6 ⟨A6,c6,rfl,ho6,hw6⟩))
   have s6:SumS w.heap.size G w w6 q:=(s4.below hw5).below hw6;have hl5:Lft (· = G) w6 A5 4 c5 (be 4 hi):=(ho5.lft hG4).fr (S:=(· = G)) (T:=(· = G)) (Fr.of_below hw6) (fun k e=>e);have hl6:Lft (· = G) w6 A6 4 c6 (be 4 lo):=ho6.lft (Nat.lt_of_lt_of_le hG4 hw5.size);clear s4 ho5 ho6 hw5 hw6 hG4 hall;have hq1:q.length+4≤4611686018427387904:=by rw[HPL.out];omega
   have hq2:(q++be 4 hi).length+4≤4611686018427387904:=by rw[List.length_append,xca,HPL.out];omega
   go_upto_region 12 with(first
    | (go_at_call 158;with_reducible refine(xe7 G q A5 4 c5 (be 4 hi) w6 s6.st (xca _ _) (fun _=>hl5) hq1).mono ?_;rintro e w7 ⟨rfl,hs7,hf7⟩)
    | (go_at_call 158;with_reducible refine(xe7 G (q++be 4 hi) A6 4 c6 (be 4 lo) w7 hs7 (xca _ _) (fun _=>hl6.fr hf7 (fun k e=>e)) hq2).mono ?_;rintro e w8 ⟨rfl,hs8,hf8⟩))
   have s8:SumS w.heap.size G w w8 (pad m):=by
    rw[← HPAD.out];exact(s6.write hf7 hs7).write hf8 hs8
   clear s6 hl5 hl6 hs7 hf7 hs8 hf8 hq1 hq2 HPAD HPL P1 P2;generalize pad m=P at *;have t1:=s8.alloc (.cells (bvs (zb 32)).toArray 23);have t2:Blk (w8.alloc (.cells (bvs (zb 32)).toArray 23)) w8.heap.size 23 (bvs (outW (hOf P) 0)):=by rw[xtx];exact Blk.new _ _ _
   have hG8:=s8.out.lt;clear s8;go_upto_region 13 with fail;generalize hW:World.alloc w8 _=w9;have h3:SumS w.heap.size G w w9 P∧Blk w9 w8.heap.size 23 (bvs (outW (hOf P) 0)):=by rw[← hW];exact⟨t1,t2⟩
   clear hW t1 t2;obtain⟨t1,t2⟩:=h3;generalize w8.heap.size=G2 at *;have hHL:=xcu P;have hHT:=hOf_lt P;obtain⟨b4,hsb4,hblk4⟩:=t1.st;have hdh:Hid (((stC (hOf P) b4 (P.length%64) P.length).drop 1).take 8=wvs (hOf P)):=hZ (stC_h hHL);have t3:=t1.bel;have t4:=t1.out;clear t1 hsb4;generalize hOf P=H at *;have HHL:=hZ hHL;refine Xt ?_;refine xaa rfl _ (xm2 _ rfl G rfl) ?_;refine X6 ?_;refine xaa rfl _ (xbi at96 _ rfl G 1 324 _ (wvs H) rfl hblk4 hdh.out (by rw[xag];exact HHL.out)) ?_;refine X1e ?_;have hHlt:Hid (∀ d,d<8→H[d]? = some (H.getD d 0)):=hZ (fun d hd=>xgo H d (by rw[HHL.out];exact hd));have hH32:Hid (∀ d,H.getD d 0<4294967296):=hZ (fun d=>xg6 H d hHT);have hOS:=hZ (fun(i:Nat)(hi:i<8)=>xty H i hHL hi)
   have hOL:=hZ (fun(i:Nat)(hi:i≤8)=>xov H i hHL hi);have hOE:Hid (outW H 8=res):=hZ (by rw[outW_end H hHL];exact HPA.out);clear hdh hblk4 hHL HPA hHT;go_wp2_with fail
   go_loopw [51] (fun v wr=>∃ i:Nat,i≤8∧v=.int .i64 (i:Int)∧Blk wr G2 23 (bvs (outW H i))∧Blk wr w.heap.size 23 (bvs (zb 32))∧Bw w wr) (fun v _=>8 - (intOf v).toNat)
   case atStart=>exact⟨0,by omega,by go_num,t2,t4,t3⟩
   case round =>
    clear t2 t3 t4;obtain⟨i,hi8,rfl,t2,t4,t3⟩:=hrel;by_cases hil:i<8
    ·have hiz:(i:Int)<8:=by omega
     obtain⟨x,hx⟩:∃ x,x=H.getD i 0:=⟨_,rfl⟩;have ex:Hid (H[i]? = some x):=hZ (by rw[hx];exact hHlt.out i hil);have hx32:x<4294967296:=by rw[hx];exact hH32.out i
     have HS:Hid (splice (outW H i) (4*i) (be 4 x)=outW H (i+1)):=hZ (by rw[hx];exact hOS.out i hil);have HQL:=hZ (hOL.out i hi8);have HXW:Hid (IntKind.i64.wrap (x:Int)=(x:Int)):=hZ (IntWalk.i64_in _ (by omega));have P3:=fun u=>hZ (xkh x u hx32)
     have hG2:=t2.lt;clear hx;go_upto_region 15 with fail;refine X12 ?_;refine xaa rfl _ (xkc _ _ rfl H i .i64 x rfl rfl HHL.out ex.out) ?_;refine X1g ?_
     go_upto_region 17 with(first
      | ((with_reducible refine xa4 57 ?_);refine xaa rfl _ (xd8 underlying306 underlying2 _ rfl .u32 (x:Int) (x:Int) rfl rfl HXW.out) ?_)
      | (go_at_call 77;with_reducible refine(P3 _).out.mono ?_;rintro e w10 ⟨A7,c7,rfl,ho7,hw7⟩))
     obtain⟨A8,c8,e8,h8,h9,hrd⟩:=ho7.rd;injection e8 with e9 e10 e11;subst e9;subst e11;clear e10 h8 h9;have t5:=t2.below hw7 hG2;refine X12 ?_;refine xaa rfl _ (xib _ _ rfl _ _ (((4*i:Nat):Int)) rfl rfl (by omega) (by omega)) ?_;refine X6 ?_;refine xaa rfl _ (xgy ia25 _ _ rfl G2 0 (4*i) _ rfl rfl (by omega)) ?_;refine X15 ?_;refine xjf bt rfl (.tmp 63) (.tmp 64) rfl G2 (0+4*i) (32 - 4*i) (32 - 4*i) A7 4 c7 rfl rfl 23 (bvs (outW H i)) (be 4 x) t5 hrd (xca _ _) (by rw[xae,HQL.out];omega) ?_;intro w11 hb11 hg11 hs11;refine X17 ?_;rw[List.take_of_length_le (by rw[xca];omega),xql,Nat.zero_add,HS.out] at hb11;have t6:Bw w w11:=(t3.trans (hw7.mono (Nat.le_of_lt t4.lt))).grown hg11 (by have:=t4.lt;have:=hw7.size;omega) (by intro k hk;cases hk;omega)
     have t7:=(t4.below hw7 t4.lt).grown hg11 (by simp;omega);go_wp2_with fail;go_roundw
     case rel=>exact⟨i+1,by omega,by go_num,hb11,t7,t6⟩
     case measure=>simp only[intOf];omega
    ·obtain rfl:i=8:=by omega
     rw[hOE.out] at t2;have hrl:Hid (res.length=32):=hZ (by rw[← hOE.out];exact hOL.out 8 (Nat.le_refl _));clear hOE hOL hOS hHlt hH32;go_upto_region 19 with fail;refine Xt ?_;refine xaa rfl _ (xba at25w (.tmp 9) rfl _ 23 (bvs res) rfl t2 (by rw[xae];exact hrl.out)) ?_;refine X6 ?_;refine xal at25w.i rfl (.tmp 2) (.tmp 67) rfl w.heap.size 0 23 (bvs (zb 32)) (bvs res) rfl rfl t4 (by rw[xae];exact hrl.out) (by rw[xae,xck];omega) (xb0 _) ?_;intro w1 hb1 hg1 hs1;refine X17 ?_;go_wp2_with fail;refine Xc ?_;rw[xbx _ _ (by rw[xae,xae,xck];exact hrl.out.symm)] at hb1;refine bodyPost_ret (xb8 rfl at25w _ _ w.heap.size 23 (bvs res) rfl hb1 (by rw[xae];exact hrl.out)) rfl ?_;exact⟨rfl,t3.grown hg1 t3.size (by intro k hk;cases hk;omega)⟩
  ·have hrne:((r:Int)==56)=false:=by
    have h:=fun e=>hjl (hst.1 e)
    simp;omega
   have t4:=s4.alloc (.cells #[.int .u8 0] 5);have hbd:(xez m j).length+1≤4611686018427387904:=by rw[xdy];omega
   clear hst
   go_wp2_with (first
    | ((with_reducible refine xa4 27 ?_);refine xaa rfl _ (xc3 _ rfl _ _ rfl HC.out) ?_)
    | (go_at_call 158;with_reducible refine(xie G (xez m j) (some ⟨wr.heap.size,0,none⟩) 1 0 _ t4.st (xm5 0 _ rfl hG4) hbd).mono ?_;rintro e w5 ⟨rfl,hs5,hf5⟩))
   have s5:SumS w.heap.size G w w5 (xez m (j+1)):=by
    rw[← xqh];exact t4.write hf5 hs5
   go_roundw
   case rel=>exact⟨j+1,by omega,s5⟩
   case measure =>
    have e1:=s5.st.all;have e2:=hall.out;rw[xdy] at e1;omega
structure Loc (w0:World)(D:Nat→Prop)(L:BL)(w:World):Prop where
 fr:Fr (fun k=>¬ D k) w0 w
 own:∀ x∈L,¬ D x.1∧Blk w x.1 x.2.1 x.2.2
 nd:L.Pairwise (fun x y=>x.1≠y.1)
 old:∀ k,D k→k<w0.heap.size
def Old(w0:World):Nat→Prop:=fun k=>k<w0.heap.size
theorem Fr.to_below{S:Nat→Prop}{a b:World}(h:Fr S a b)(hS:∀ k,k<a.heap.size→S k→b.heap[k]? = a.heap[k]?):Bw a b :=
 ⟨h.os,h.tape,h.output,h.size,fun i hi=>by
  by_cases hs:S i
  ·exact hS i hi hs
  ·exact h.block i hi hs⟩
section
variable {w0 w w':World}{D:Nat→Prop}{L:BL}
theorem Loc.start(w:World):Loc w (Old w) [] w:=⟨Fr.refl _ _,fun x h=>by simp at h,List.Pairwise.nil,fun k h=>h⟩
theorem lS(w:World):∃ u,u=w∧Loc w (Old w) [] w:=⟨w,rfl,.start w⟩
theorem Loc.start'(w:World)(D:Nat→Prop)(h:∀ k,D k→k<w.heap.size):Loc w D [] w:=⟨Fr.refl _ _,fun x h=>by simp at h,List.Pairwise.nil,h⟩
theorem Loc.blk(H:Loc w0 D L w){g t:Nat}{cs:List Value}(h:(g,t,cs)∈L):Blk w g t cs:=(H.own _ h).2
theorem Loc.lt(H:Loc w0 D L w){k:Nat}(h:D k):k<w.heap.size:=Nat.lt_of_lt_of_le (H.old k h) H.fr.size
theorem Loc.heap(H:Loc w0 D L w){k:Nat}(h:D k):w.heap[k]? = w0.heap[k]? := H.fr.block k (H.old k h) (fun n=>n h)
theorem Loc.cell(H:Loc w0 D L w){ad:Addr}{v:Value}(hD:D ad.block)(hc:w0.cell? ad=some v):w.cell? ad=some v:=by
 rw[World.cell?_of_block (w:=w0) (H.heap hD),hc]
theorem Loc.cellO(H:Loc w0 (Old w0) L w){ad:Addr}{v:Value}(hc:w0.cell? ad=some v):w.cell? ad=some v:=H.cell (World.block_lt_of_cell? _ _ hc) hc
theorem Loc.far(H:Loc w0 D L w){g t:Nat}{cs:List Value}(hD:D g)(hb:Blk w0 g t cs):Blk w g t cs:=(H.heap hD).trans hb
theorem Loc.farO(H:Loc w0 (Old w0) L w){g t:Nat}{cs:List Value}(hb:Blk w0 g t cs):Blk w g t cs:=H.far hb.lt hb
theorem Loc.rd(H:Loc w0 D L w){A:Option Addr}{cs:List Value}(hD:∀ ad,A=some ad→D ad.block)(hr:Rd w0 A cs):Rd w A cs:=hr.fr H.fr (fun ad e n=>n (hD ad e))
theorem Loc.below(H:Loc w0 (Old w0) L w):Bw w0 w:=H.fr.to_below (fun k hk hn=>absurd hk hn)
theorem Loc.rdO(H:Loc w0 (Old w0) L w){A:Option Addr}{cs:List Value}(hr:Rd w0 A cs):Rd w A cs:=hr.below H.below
theorem Loc.next(H:Loc w0 D L w)(hb:Bw w w'):Loc w0 D L w' :=
 ⟨H.fr.below hb,fun x hx=>⟨(H.own x hx).1,(H.own x hx).2.below hb (H.own x hx).2.lt⟩,H.nd,H.old⟩
theorem Loc.frame(H:Loc w0 D L w){T:Nat→Prop}(hf:Fr T w w')(hT:∀ k,T k→¬ D k)(hL:∀ x∈L,¬ T x.1):Loc w0 D L w' :=
 ⟨H.fr.trans ⟨hf.os,hf.tape,hf.output,hf.size,fun k hk hn=>hf.block k hk (fun t=>hn (hT k t))⟩,fun x hx=>⟨(H.own x hx).1,(H.own x hx).2.fr hf (hL x hx)⟩,H.nd,H.old⟩
theorem Loc.drew(H:Loc w0 D L w):Loc w0 D L w.drew:=⟨H.fr.drew,fun x hx=>⟨(H.own x hx).1,(H.own x hx).2.drew⟩,H.nd,H.old⟩
theorem Loc.anew(H:Loc w0 D L w){T:Nat→Prop}(hf:Fr T w w')(hL:∀ x∈L,¬ T x.1)(D':Nat→Prop)(h1:∀ k,D' k→k<w'.heap.size)(h2:∀ x∈L,¬ D' x.1):Loc w' D' L w' :=
 ⟨Fr.refl _ _,fun x hx=>⟨h2 x hx,(H.own x hx).2.fr hf (hL x hx)⟩,H.nd,h1⟩
theorem Loc.drop(H:Loc w0 D L w)(L':BL)(hs:L'.Sublist L):Loc w0 D L' w :=
 ⟨H.fr,fun x hx=>H.own x (hs.subset hx),H.nd.sublist hs,H.old⟩
theorem Loc.new(H:Loc w0 D L w)(t:Nat)(cs:List Value):Loc w0 D ((w.heap.size,t,cs)::L) (w.alloc (.cells cs.toArray t)):=by
 have h1:=H.next ((Below.refl _ w).alloc (Nat.le_refl _) (.cells cs.toArray t));refine⟨h1.fr,?_,?_,H.old⟩
 ·intro x hx
  rcases List.mem_cons.1 hx with rfl | hx
  ·exact⟨fun hd=>Nat.lt_irrefl _ (H.lt hd),Blk.new _ _ _⟩
  ·exact h1.own x hx
 ·refine List.pairwise_cons.2 ⟨fun y hy e=>?_,H.nd⟩
  have h2:=(H.own y hy).2.lt;have e':w.heap.size=y.1:=e;omega
theorem Loc.putAt(H:Loc w0 D L w){i g t:Nat}{cs cs':List Value}(hL:L[i]? = some (g,t,cs))(hb:Blk w' g t cs')(hg:w.grownBy w' (some g)):Loc w0 D (L.set i (g,t,cs')) w':=by
 have hi:i<L.length:=(List.getElem?_eq_some_iff.1 hL).1;have hm:(g,t,cs)∈L:=List.mem_of_getElem? hL;have hgD:=(H.own _ hm).1;have e:L.set i (g,t,cs')=L.take i++(g,t,cs')::L.drop (i+1):=List.set_eq_take_append_cons_drop▸by rw[if_pos hi]
 have e0:L=L.take i++(g,t,cs)::L.drop (i+1):=by
  have h3:L[i]=(g,t,cs):=by rw[List.getElem?_eq_getElem hi] at hL;simpa using hL
  rw[← h3,List.getElem_cons_drop,List.take_append_drop]
 have hnd:=H.nd;rw[e0] at hnd;obtain⟨n1,n2,n3⟩:=List.pairwise_append.1 hnd;obtain⟨n4,n5⟩:=List.pairwise_cons.1 n2;have hf:Fr (fun k=>¬ D k) w0 w':=H.fr.grown hg (fun k hk=>by cases hk;exact .inl hgD);refine⟨hf,?_,?_,H.old⟩
 ·intro x hx
  rw[e] at hx;have hne:∀ x∈L,x.1≠g→¬ D x.1∧Blk w' x.1 x.2.1 x.2.2:=fun x hx hn=>⟨(H.own x hx).1,(H.own x hx).2.grown hg (fun e=>hn (Option.some.inj e))⟩
  rcases List.mem_append.1 hx with hx | hx
  ·exact hne x (List.mem_of_mem_take hx) (n3 x hx (g,t,cs) (by simp))
  ·rcases List.mem_cons.1 hx with rfl | hx
   ·exact⟨hgD,hb⟩
   ·exact hne x (List.mem_of_mem_drop hx) (fun e=>n4 x hx e.symm)
 ·rw[e]
  exact List.pairwise_append.2 ⟨n1,List.pairwise_cons.2 ⟨n4,n5⟩,fun x hx y hy=>by
   rcases List.mem_cons.1 hy with rfl | hy
   ·exact n3 x hx (g,t,cs) (by simp)
   ·exact n3 x hx y (by simp[hy])⟩
end
structure FA (P:Program)(T i n:Nat):Prop where
 f:∃ fs f,P.underlying T=some (.struct fs)∧fs[i]? = some f∧f.offset=n∧(P.info? f.type).map (fun j=>decide (0<j.size))=some true
structure W1 (P:Program)(T:Nat):Prop where
 u:∃ d,P.underlying T=some d∧d.isRow=false
 i:(P.info? T).map (·.size)=some 1
structure ZA (P:Program)(T:Nat)(zs:List Value):Prop where
 i:∃ zv,(P.info? T).map (·.zero)=some (some zv)∧zv.cells=zs.toArray
section
variable {P:Program}{T:TypeId}{w0 w:World}{D:Nat→Prop}{L:BL}{ops:Array Oper}{rest:List Oper}{o:Oper}{a:Act}{Q:Exit→Act→World→Prop}{K:Act→World→Prop}
theorem xe0{i n:Nat}(B:FA P T i n)(x:Operand)(ho:o.op=.fieldAddr T x i)(ad:Addr)(hx:a.eval x=.pointer (some ad)) :
  (execOp a.eval o).run P w=.ok (.value (.pointer (some (ad.add n)))) w:=by
 obtain⟨fs,f,hu,hf,hn,hs⟩:=B.f
 cases hq:P.info? f.type with
 | none=>simp[hq] at hs
 | some j =>
  have hj:0<j.size:=by simpa[hq] using hs
  have e:(fieldPlace ad f).run P w=.ok (ad.add n) w:=by
   simp[fieldPlace,sizeOf,typeInfo,hq,hn];omega
  have e2:(Instr.fieldAt T (.pointer (some ad)) i).run P w=.ok (.pointer (some (ad.add n))) w:=by
   simp[Instr.fieldAt,run_underlying hu,hf,Instr.sureAddr,e]
  unfold execOp;simp only[ho,hx,Sem.run_bind,e2,Result.andThen_ok,Sem.run_pure]
theorem xer{i n:Nat}(B:FA P T i n)(x:Operand)(ho:o.op=.fieldAddr T x i)(g k:Nat)(hx:a.eval x=.pointer (some ⟨g,k,none⟩)) :
  (execOp a.eval o).run P w=.ok (.value (.pointer (some ⟨g,k+n,none⟩))) w:=by
 have:=xe0 (w:=w) B x ho _ hx;rwa [xei] at this
theorem xaf{i n:Nat}(B:FA P T i n)(x:Operand)(ho:o.op=.fieldAddr T x i)(g:Nat)(hx:a.eval x=.pointer (some ⟨g,0,none⟩)) :
  (execOp a.eval o).run P w=.ok (.value (.pointer (some ⟨g,n,none⟩))) w:=by
 have:=xer (w:=w) B x ho g 0 hx;rwa [Nat.zero_add] at this
theorem xhf{n:Nat}(x:Operand)(ho:o.op=.extract x n)(vs:List Value)(v:Value)(hx:a.eval x=.tuple vs.toArray)(hv:vs[n]? = some v):(execOp a.eval o).run P w=.ok (.value v) w:=by
 unfold execOp;simp only[ho,hx];simp[Instr.extract,hv]
theorem xbn{n:Nat}(B:AT P T n)(H:Loc w0 D L w)(x:Operand)(ho:o.op=.load T x)(g:Nat)(hx:a.eval x=.pointer (some ⟨g,0,none⟩))(t:Nat)(cs:List Value)(hm:(g,t,cs)∈L)(hn:cs.length=n) :
  (execOp a.eval o).run P w=.ok (.value (.agg cs.toArray)) w:=xba B x ho g t cs hx (H.blk hm) hn
theorem xav{n:Nat}(B:AT P T n)(H:Loc w0 D L w)(x:Operand)(ho:o.op=.load T x)(g k:Nat)(hx:a.eval x=.pointer (some ⟨g,k,none⟩))(t:Nat)(cs vs:List Value)(hm:(g,t,cs)∈L)(e:(cs.drop k).take n=vs)(hn:vs.length=n) :
  (execOp a.eval o).run P w=.ok (.value (.agg vs.toArray)) w:=xbi B x ho g k t cs vs hx (H.blk hm) e hn
theorem xai(B:W1 P T)(H:Loc w0 D L w)(x:Operand)(ho:o.op=.load T x)(g k:Nat)(hx:a.eval x=.pointer (some ⟨g,k,none⟩))(t:Nat)(cs:List Value)(v:Value)(hm:(g,t,cs)∈L)(hv:cs[k]? = some v) :
  (execOp a.eval o).run P w=.ok (.value v) w:=by
 obtain⟨d,hu,hd⟩:=B.u;exact xb6 hu hd x ho _ _ hx (by rw[(H.blk hm).cell,hv])
theorem xa8(B:W1 P T)(H:Loc w0 D L w)(x:Operand)(ho:o.op=.load T x)(ad:Addr)(hx:a.eval x=.pointer (some ad))(v:Value)(hD:D ad.block)(hc:w0.cell? ad=some v) :
  (execOp a.eval o).run P w=.ok (.value v) w:=by
 obtain⟨d,hu,hd⟩:=B.u;exact xb6 hu hd x ho _ _ hx (H.cell hD hc)
theorem xdr(B:W1 P T)(H:Loc w0 (Old w0) L w)(x:Operand)(ho:o.op=.load T x)(ad:Addr)(hx:a.eval x=.pointer (some ad))(v:Value)(hc:w0.cell? ad=some v) :
  (execOp a.eval o).run P w=.ok (.value v) w:=by
 obtain⟨d,hu,hd⟩:=B.u;exact xb6 hu hd x ho _ _ hx (H.cellO hc)
theorem xc9{n:Nat}(B:AT P T n)(H:Loc w0 D L w)(x:Operand)(ho:o.op=.load T x)(g k:Nat)(hx:a.eval x=.pointer (some ⟨g,k,none⟩))(t:Nat)(cs vs:List Value)(hD:D g)(hb:Blk w0 g t cs)(e:(cs.drop k).take n=vs)(hn:vs.length=n) :
  (execOp a.eval o).run P w=.ok (.value (.agg vs.toArray)) w:=xbi B x ho g k t cs vs hx (H.far hD hb) e hn
theorem xah{zs:List Value}(Z:ZA P T zs)(hgd:o.guard=none)(ho:o.op=.alloc T)(H:Loc w0 D L w)
  (h:∀ g w',Loc w0 D ((g,T,zs)::L) w'→wpList P ops Q rest (a.put o.dst (pG g)) w'):wpList P ops Q (o::rest) a w:=by
 obtain⟨zv,hz,hc⟩:=Z.i;refine X1 ?_;intro K hK
 have e:(execOp a.eval o).run P w=.ok (.value (.pointer (some ⟨w.heap.size,0,none⟩))) (w.alloc (.cells zs.toArray T)):=by
  cases hq:P.info? T with
  | none=>simp[hq] at hz
  | some j =>
   have hj:j.zero=some zv:=by simpa[hq] using hz
   unfold execOp;simp[ho,Instr.alloc,zeroValue,typeInfo,hq,hj,newVar,newRow,hc]
 unfold Oper.wp;rw[e];exact hK _ _ (h _ _ (H.new T zs))
theorem xcs(hgd:o.guard=none)(x:Operand)(ho:o.op=.box T x)(H:Loc w0 D L w)(cs:List Value)(hx:a.eval x=.agg cs.toArray)
  (h:∀ g w',Loc w0 D ((g,T,cs)::L) w'→wpList P ops Q rest (a.put o.dst (pG g)) w'):wpList P ops Q (o::rest) a w:=by
 refine X1 ?_;intro K hK
 have e:(execOp a.eval o).run P w=.ok (.value (.pointer (some ⟨w.heap.size,0,none⟩))) (w.alloc (.cells cs.toArray T)):=by
  unfold execOp;simp[ho,hx,Instr.box,newVar,newRow,Value.cells]
 unfold Oper.wp;rw[e];exact hK _ _ (h _ _ (H.new T cs))
theorem lo_box1(hgd:o.guard=none)(x:Operand)(ho:o.op=.box T x)(H:Loc w0 D L w)(v:Value)(hx:a.eval x=v)(h1:v.oneCell'=true)
  (h:∀ g w',Loc w0 D ((g,T,[v])::L) w'→wpList P ops Q rest (a.put o.dst (pG g)) w'):wpList P ops Q (o::rest) a w:=by
 refine X1 ?_;intro K hK;have hv:v.cells=#[v]:=by cases v<;>first | rfl | (simp[Value.oneCell'] at h1)
 have e:(execOp a.eval o).run P w=.ok (.value (.pointer (some ⟨w.heap.size,0,none⟩))) (w.alloc (.cells [v].toArray T)):=by
  unfold execOp;simp[ho,hx,Instr.box,newVar,newRow,hv]
 unfold Oper.wp;rw[e];exact hK _ _ (h _ _ (H.new T [v]))
theorem xbo{n:Nat}(hi:AT P T n)(hgd:o.guard=none)(x y:Operand)(ho:o.op=.store T x y)(H:Loc w0 D L w)(i g t:Nat)(cs vs:List Value)(hx:a.eval x=.pointer (some ⟨g,0,none⟩))(hL:L[i]? = some (g,t,cs))
  (hy:a.eval y=.agg vs.toArray) (hn:vs.length=n) (hc:cs.length=n) (h1:∀ u∈vs,u.oneCell'=true) (h:∀ w',Loc w0 D (L.set i (g,t,vs)) w'→wpList P ops Q rest (a.put o.dst undef) w'):wpList P ops Q (o::rest) a w:=by
 refine xal hi.i hgd x y ho g 0 t cs vs hx hy (H.blk (List.mem_of_getElem? hL)) hn (by omega) h1 fun w' hb hg _=>h w' ?_
 refine H.putAt hL ?_ hg;have e:splice cs 0 vs=vs:=by simp[splice,hn,hc]
 rwa [e] at hb
theorem xff{n:Nat}(hi:AT P T n)(hgd:o.guard=none)(x y:Operand)(ho:o.op=.store T x y)(H:Loc w0 D L w)(i g k t:Nat)(cs vs cs':List Value)(hx:a.eval x=.pointer (some ⟨g,k,none⟩))(hL:L[i]? = some (g,t,cs))
  (hy:a.eval y=.agg vs.toArray) (hn:vs.length=n) (hf:k+n≤cs.length) (h1:∀ u∈vs,u.oneCell'=true) (hc:splice cs k vs=cs') (h:∀ w',Loc w0 D (L.set i (g,t,cs')) w'→wpList P ops Q rest (a.put o.dst undef) w'):wpList P ops Q (o::rest) a w:=by
 refine xal hi.i hgd x y ho g k t cs vs hx hy (H.blk (List.mem_of_getElem? hL)) hn hf h1 fun w' hb hg _=>h w' ?_
 rw[hc] at hb;exact H.putAt hL hb hg
theorem xa3(B:W1 P T)(hgd:o.guard=none)(x y:Operand)(ho:o.op=.store T x y)(H:Loc w0 D L w)(i g k t:Nat)(cs cs':List Value)(v:Value)(hx:a.eval x=.pointer (some ⟨g,k,none⟩))(hL:L[i]? = some (g,t,cs))
  (hy:a.eval y=v) (h1:v.oneCell'=true) (hf:k<cs.length) (hc:cs.set k v=cs') (h:∀ w',Loc w0 D (L.set i (g,t,cs')) w'→wpList P ops Q rest (a.put o.dst undef) w'):wpList P ops Q (o::rest) a w:=by
 have hb:=H.blk (List.mem_of_getElem? hL);refine xd7 hgd B.i x y ho g k t cs v hx hy h1 hb hf (h _ ?_);refine H.putAt hL ?_ (xdl _ _ _ _);rw[← hc];exact hb.set_ k v
theorem xcx(B:W1 P T)(x y:Operand)(ho:o.op=.store T x y)(g k t:Nat)(cs:List Value)(v:Value)(hx:a.eval x=.pointer (some ⟨g,k,none⟩))(hb:Blk w g t cs)
  (hy:a.eval y=v) (h1:v.oneCell'=true) (hf:k<cs.length) (h:∀ w',Blk w' g t (cs.set k v)→Fr (· = g) w w'→w'.heap.size=w.heap.size→K (a.put o.dst undef) w'):o.wp P a w K Q :=
 xcn B.i x y ho g k t cs v hx hy h1 hb hf (h _ (hb.set_ k v) (Fr.setCell (S:=(· = g)) (p:=⟨g,k,none⟩) (Fr.refl _ _) (.inl rfl) _) (by simp))
theorem wp_callF{n:Nat}{fn:Func}(hf:P.funcs[n]? = some fn)(hnm:(fn.name== "runtime.NumGoroutine")=false)(hb:fn.body.isNone=false){xs:Array Operand}{ts:Array TypeId}(ho:o.op=.call { callee:=.value (.func n),args:=xs,argTypes:=ts })
  (args:Array Value) (ha:xs.map a.eval=args) (hC:Calls P n args w fun e w'=>∃ v,e=.returned v∧K (a.put o.dst v) w'):o.wp P a w K Q:=by
 have e:(execOp a.eval o).run P w=.ok (.enter n args) w:=by
  unfold execOp;simp only[ho,resolve,ha];have h1:fn.name≠ "runtime.NumGoroutine" := by simpa using hnm
  have h2:fn.body≠none:=by intro h;rw[h] at hb;cases hb
  simp[Act.eval,Deferred.ofValue,invoke,callFunc,hf,h1,h2]
 unfold Oper.wp;rw[e];refine hC.mono ?_;rintro e w' ⟨v,rfl,hk⟩;exact hk
end
structure D32 where
 l:LU
 h:l.length=32
theorem D32.ext{a b:D32}(h:a.l=b.l):a=b:=by cases a;cases b;cases h;rfl
theorem D32.inj{a b:D32}(h:a=b):a.l=b.l:=by rw[h]
instance :DecidableEq D32:=fun a b=>if h:a.l=b.l then isTrue (D32.ext h) else isFalse (fun e=>h (D32.inj e))
def D32.z:D32:=⟨zb 32,by simp[zb]⟩
def D32.c(x:D32):List Value:=bvs x.l
theorem D32.cl(x:D32):x.c.length=32:=by unfold D32.c;rw[xae,x.h]
theorem D32.c1(x:D32):∀ u∈x.c,u.oneCell'=true:=xb0 _
theorem bvs_inj{l m:LU}(h:bvs l=bvs m):l=m:=by
 have hb:∀ x y:UInt8,bv x=bv y→x=y:=by
  intro x y e;unfold bv at e;injection e with _ e;exact UInt8.toNat_inj.1 (by omega)
 exact List.map_inj_right hb |>.1 h
theorem D32.c_inj{a b:D32}(h:a.c=b.c):a=b:=D32.ext (bvs_inj h)
structure Sv where
 A:Option Addr
 n:Nat
 c:Nat
def Sv.v(x:Sv):Value:=.slice x.A x.n x.c
def Sv.nil:Sv:=⟨none,0,0⟩
theorem Sv.one(x:Sv):x.v.oneCell'=true:=rfl
theorem xbl{α:Type}(a b c m:List α)(h:m.length=b.length):splice (a++(b++c)) a.length m=a++(m++c):=by
 unfold splice;rw[List.take_left' rfl,h];congr 2;have e:a++(b++c)=(a++b)++c:=by simp
 rw[e,List.drop_left' (by simp)]
theorem xr5{α:Type}(a b c:List α)(n:Nat)(h:b.length=n):((a++(b++c)).drop a.length).take n=b:=by
 rw[List.drop_left' rfl,List.take_left' h]
theorem gk{α:Type}{a r:List α}{n k:Nat}{o:Option α}(h:a.length=k)(hk:k≤n)(z:r[n - k]? = o):(a++r)[n]? = o:=by rw[List.getElem?_append_right (by omega),h];exact z
theorem gd{α:Type}{a r o:List α}{n k m:Nat}(h:a.length=k)(hk:k≤n)(z:(r.drop (n - k)).take m=o):((a++r).drop n).take m=o:=by
 rw[List.drop_append,List.drop_eq_nil_of_le (by omega),h];exact z
theorem gd0{α:Type}{b r:List α}{n m:Nat}(h:b.length=m)(hn:n=0):((b++r).drop n).take m=b:=by subst hn;rw[List.drop_zero,List.take_left' h]
theorem sk{α:Type}{a r q:List α}{n k:Nat}{v:α}(h:a.length=k)(hk:k≤n)(z:r.set (n - k) v=q):(a++r).set n v=a++q:=by rw[List.set_append_right _ _ (by omega),h,z]
theorem sk0{α:Type}{r:List α}{n:Nat}{u v:α}(hn:n=0):([u]++r).set n v = [v]++r:=by subst hn;rfl
theorem gk0{α:Type}{r:List α}{n:Nat}{v:α}(hn:n=0):([v]++r)[n]? = some v:=by subst hn;rfl
theorem sp{α:Type}{a r q u:List α}{n k:Nat}(h:a.length=k)(hk:k≤n)(z:splice r (n - k) u=q):splice (a++r) n u=a++q:=by
 subst z;unfold splice;rw[List.take_append,List.take_of_length_le (by omega),h,List.drop_append,List.drop_eq_nil_of_le (by omega),h,List.nil_append,List.append_assoc,show n+u.length - k=n - k+u.length by omega]
theorem sp0{α:Type}{b r u:List α}{n:Nat}(h:u.length=b.length)(hn:n=0):splice (b++r) n u=u++r:=by
 subst hn;have:=xbl [] b r u h;simpa using this
theorem Zg{q:Prop}(z:q:=by
 repeat (refine gk (by first | exact(rfl:_=1) | exact D32.cl _) (by decide) ?_)
 exact gk0 rfl):q:=z
theorem Zd{q:Prop}(z:q:=by
 repeat (refine gd (by first | exact(rfl:_=1) | exact D32.cl _) (by decide) ?_)
 exact gd0 (D32.cl _) rfl):q:=z
theorem Zs{q:Prop}(z:q:=by
 repeat (refine sk (by first | exact(rfl:_=1) | exact D32.cl _) (by decide) ?_)
 exact sk0 rfl):q:=z
theorem Zp{q:Prop}(z:q:=by
 repeat (refine sp (by first | exact(rfl:_=1) | exact D32.cl _) (by decide) ?_)
 exact sp0 (by simp only[D32.cl]) rfl):q:=z
structure Nod where
 kind:Nat
 key:D32
 val:D32
 left:D32
 right:D32
def Nod.cells(x:Nod):List Value:=[Value.int .u8 (x.kind:Int)]++(x.key.c++(x.val.c++(x.left.c++(x.right.c++[]))))
theorem Nod.len(x:Nod):x.cells.length=129:=by
 simp only[Nod.cells,qp,D32.cl,qr,qs]
theorem Nod.one(x:Nod):∀ u∈x.cells,u.oneCell'=true:=by
 intro u hu;simp only[Nod.cells,List.mem_append,List.mem_cons,List.not_mem_nil,or_false] at hu;rcases hu with rfl | hu | hu | hu | hu
 ·rfl
 ·exact D32.c1 _ u hu
 ·exact D32.c1 _ u hu
 ·exact D32.c1 _ u hu
 ·exact D32.c1 _ u hu
def Nod.z:Nod:=⟨0,D32.z,D32.z,D32.z,D32.z⟩
theorem Nod.s_kind(x:Nod)(y:Nat):x.cells.set 0 (Value.int .u8 (y:Int))=({x with kind:=y}:Nod).cells:=by unfold Nod.cells;exact Zs
theorem Nod.g_key(x:Nod):(x.cells.drop 1).take 32=x.key.c:=by unfold Nod.cells;exact Zd
theorem Nod.s_key(x:Nod)(y:D32):splice x.cells 1 y.c=({x with key:=y}:Nod).cells:=by unfold Nod.cells;exact Zp
theorem Nod.g_val(x:Nod):(x.cells.drop 33).take 32=x.val.c:=by unfold Nod.cells;exact Zd
theorem Nod.s_val(x:Nod)(y:D32):splice x.cells 33 y.c=({x with val:=y}:Nod).cells:=by unfold Nod.cells;exact Zp
structure Prv where
 sides:Sv
 kind:Nat
 key:D32
 val:D32
 left:D32
 right:D32
def Prv.cells(x:Prv):List Value:=[x.sides.v]++([Value.int .u8 (x.kind:Int)]++(x.key.c++(x.val.c++(x.left.c++(x.right.c++[])))))
theorem Prv.len(x:Prv):x.cells.length=130:=by
 simp only[Prv.cells,qp,D32.cl,qr,qs]
def Prv.z:Prv:=⟨Sv.nil,0,D32.z,D32.z,D32.z,D32.z⟩
theorem Prv.g_sides(x:Prv):x.cells[0]? = some (x.sides.v):=by unfold Prv.cells;exact Zg
theorem Prv.s_sides(x:Prv)(y:Sv):x.cells.set 0 (y.v)=({x with sides:=y}:Prv).cells:=by unfold Prv.cells;exact Zs
structure Brv where
 kind:Nat
 key:D32
 val:D32
 dig:D32
def Brv.cells(x:Brv):List Value:=[Value.int .u8 (x.kind:Int)]++(x.key.c++(x.val.c++(x.dig.c++[])))
theorem Brv.len(x:Brv):x.cells.length=97:=by
 simp only[Brv.cells,qp,D32.cl,qr,qs]
theorem Brv.one(x:Brv):∀ u∈x.cells,u.oneCell'=true:=by
 intro u hu;simp only[Brv.cells,List.mem_append,List.mem_cons,List.not_mem_nil,or_false] at hu;rcases hu with rfl | hu | hu | hu
 ·rfl
 ·exact D32.c1 _ u hu
 ·exact D32.c1 _ u hu
 ·exact D32.c1 _ u hu
def Brv.z:Brv:=⟨0,D32.z,D32.z,D32.z⟩
theorem Brv.g_kind(x:Brv):x.cells[0]? = some (Value.int .u8 (x.kind:Int)):=by unfold Brv.cells;exact Zg
theorem Brv.s_kind(x:Brv)(y:Nat):x.cells.set 0 (Value.int .u8 (y:Int))=({x with kind:=y}:Brv).cells:=by unfold Brv.cells;exact Zs
theorem Brv.g_key(x:Brv):(x.cells.drop 1).take 32=x.key.c:=by unfold Brv.cells;exact Zd
theorem Brv.s_key(x:Brv)(y:D32):splice x.cells 1 y.c=({x with key:=y}:Brv).cells:=by unfold Brv.cells;exact Zp
theorem Brv.g_val(x:Brv):(x.cells.drop 33).take 32=x.val.c:=by unfold Brv.cells;exact Zd
theorem Brv.s_val(x:Brv)(y:D32):splice x.cells 33 y.c=({x with val:=y}:Brv).cells:=by unfold Brv.cells;exact Zp
theorem Brv.g_dig(x:Brv):(x.cells.drop 65).take 32=x.dig.c:=by unfold Brv.cells;exact Zd
theorem Brv.s_dig(x:Brv)(y:D32):splice x.cells 65 y.c=({x with dig:=y}:Brv).cells:=by unfold Brv.cells;exact Zp
structure Sai where
 there:Bool
 val:D32
def Sai.cells(x:Sai):List Value:=[Value.bool x.there]++(x.val.c++[])
theorem Sai.len(x:Sai):x.cells.length=33:=by
 simp only[Sai.cells,qp,D32.cl,qr,qs]
structure Clm where
 there:Bool
 val:Sv
 byt:Sv
def Clm.cells(x:Clm):List Value:=[Value.bool x.there]++([x.val.v]++([x.byt.v]++[]))
theorem Clm.len(x:Clm):x.cells.length=3:=by
 simp only[Clm.cells,qp,D32.cl,qr,qs]
structure Cla where
 fst:Sv
 snd:Sv
def Cla.cells(x:Cla):List Value:=[x.fst.v]++([x.snd.v]++[])
theorem Cla.len(x:Cla):x.cells.length=2:=by
 simp only[Cla.cells,qp,D32.cl,qr,qs]
structure Spv where
 parts:Sv
 vals:Sv
def Spv.cells(x:Spv):List Value:=[x.parts.v]++([x.vals.v]++[])
theorem Spv.len(x:Spv):x.cells.length=2:=by
 simp only[Spv.cells,qp,D32.cl,qr,qs]
structure Say where
 fst:Bool
 snd:Bool
 same:Bool
def Say.cells(x:Say):List Value:=[Value.bool x.fst]++([Value.bool x.snd]++([Value.bool x.same]++[]))
theorem Say.len(x:Say):x.cells.length=3:=by
 simp only[Say.cells,qp,D32.cl,qr,qs]
structure Par where
 key:D32
 val:Sv
def Par.cells(x:Par):List Value:=x.key.c++([x.val.v]++[])
theorem Par.len(x:Par):x.cells.length=33:=by
 simp only[Par.cells,qp,D32.cl,qr,qs]
theorem Par.one(x:Par):∀ u∈x.cells,u.oneCell'=true:=by
 intro u hu;simp only[Par.cells,List.mem_append,List.mem_cons,List.not_mem_nil,or_false] at hu;rcases hu with hu | rfl
 ·exact D32.c1 _ u hu
 ·rfl
def Par.z:Par:=⟨D32.z,Sv.nil⟩
theorem Par.g_key(x:Par):(x.cells.drop 0).take 32=x.key.c:=by unfold Par.cells;exact Zd
theorem Par.s_key(x:Par)(y:D32):splice x.cells 0 y.c=({x with key:=y}:Par).cells:=by unfold Par.cells;exact Zp
theorem Par.g_val(x:Par):x.cells[32]? = some (x.val.v):=by unfold Par.cells;exact Zg
theorem Par.s_val(x:Par)(y:Sv):x.cells.set 32 (y.v)=({x with val:=y}:Par).cells:=by unfold Par.cells;exact Zs
structure Str where
 fr:D32
 til:D32
def Str.cells(x:Str):List Value:=x.fr.c++(x.til.c++[])
theorem Str.len(x:Str):x.cells.length=64:=by
 simp only[Str.cells,qp,D32.cl,qr,qs]
structure Nd where
 dig:D32
 kind:Nat
 depth:Int
 key:D32
 vs:Sv
 hash:D32
 left:Int
 right:Int
 size:Int
 held:Int
def Nd.cells(x:Nd):List Value:=x.dig.c++([Value.int .u8 (x.kind:Int)]++([Value.int .i64 x.depth]++(x.key.c++([x.vs.v]++(x.hash.c++([Value.int .i64 x.left]++([Value.int .i64 x.right]++([Value.int .i64 x.size]++([Value.int .i64 x.held]++[])))))))))
theorem Nd.len(x:Nd):x.cells.length=103:=by
 simp only[Nd.cells,qp,D32.cl,qr,qs]
theorem Nd.one(x:Nd):∀ u∈x.cells,u.oneCell'=true:=by
 intro u hu;simp only[Nd.cells,List.mem_append,List.mem_cons,List.not_mem_nil,or_false] at hu;rcases hu with hu | rfl | rfl | hu | rfl | hu | rfl | rfl | rfl | rfl
 ·exact D32.c1 _ u hu
 ·rfl
 ·rfl
 ·exact D32.c1 _ u hu
 ·rfl
 ·exact D32.c1 _ u hu
 ·rfl
 ·rfl
 ·rfl
 ·rfl
def Nd.z:Nd:=⟨D32.z,0,0,D32.z,Sv.nil,D32.z,0,0,0,0⟩
theorem Nd.g_dig(x:Nd):(x.cells.drop 0).take 32=x.dig.c:=by unfold Nd.cells;exact Zd
theorem Nd.s_dig(x:Nd)(y:D32):splice x.cells 0 y.c=({x with dig:=y}:Nd).cells:=by unfold Nd.cells;exact Zp
theorem Nd.g_kind(x:Nd):x.cells[32]? = some (Value.int .u8 (x.kind:Int)):=by unfold Nd.cells;exact Zg
theorem Nd.s_kind(x:Nd)(y:Nat):x.cells.set 32 (Value.int .u8 (y:Int))=({x with kind:=y}:Nd).cells:=by unfold Nd.cells;exact Zs
theorem Nd.g_depth(x:Nd):x.cells[33]? = some (Value.int .i64 x.depth):=by unfold Nd.cells;exact Zg
theorem Nd.s_depth(x:Nd)(y:Int):x.cells.set 33 (iV y)=({x with depth:=y}:Nd).cells:=by unfold Nd.cells;exact Zs
theorem Nd.g_key(x:Nd):(x.cells.drop 34).take 32=x.key.c:=by unfold Nd.cells;exact Zd
theorem Nd.s_key(x:Nd)(y:D32):splice x.cells 34 y.c=({x with key:=y}:Nd).cells:=by unfold Nd.cells;exact Zp
theorem Nd.g_vs(x:Nd):x.cells[66]? = some (x.vs.v):=by unfold Nd.cells;exact Zg
theorem Nd.s_vs(x:Nd)(y:Sv):x.cells.set 66 (y.v)=({x with vs:=y}:Nd).cells:=by unfold Nd.cells;exact Zs
theorem Nd.g_hash(x:Nd):(x.cells.drop 67).take 32=x.hash.c:=by unfold Nd.cells;exact Zd
theorem Nd.s_hash(x:Nd)(y:D32):splice x.cells 67 y.c=({x with hash:=y}:Nd).cells:=by unfold Nd.cells;exact Zp
theorem Nd.g_left(x:Nd):x.cells[99]? = some (Value.int .i64 x.left):=by unfold Nd.cells;exact Zg
theorem Nd.s_left(x:Nd)(y:Int):x.cells.set 99 (iV y)=({x with left:=y}:Nd).cells:=by unfold Nd.cells;exact Zs
theorem Nd.g_right(x:Nd):x.cells[100]? = some (Value.int .i64 x.right):=by unfold Nd.cells;exact Zg
theorem Nd.s_right(x:Nd)(y:Int):x.cells.set 100 (iV y)=({x with right:=y}:Nd).cells:=by unfold Nd.cells;exact Zs
theorem Nd.g_size(x:Nd):x.cells[101]? = some (Value.int .i64 x.size):=by unfold Nd.cells;exact Zg
theorem Nd.s_size(x:Nd)(y:Int):x.cells.set 101 (iV y)=({x with size:=y}:Nd).cells:=by unfold Nd.cells;exact Zs
theorem Nd.g_held(x:Nd):x.cells[102]? = some (Value.int .i64 x.held):=by unfold Nd.cells;exact Zg
theorem Nd.s_held(x:Nd)(y:Int):x.cells.set 102 (iV y)=({x with held:=y}:Nd).cells:=by unfold Nd.cells;exact Zs
structure Slo where
 dig:D32
 kind:Nat
 depth:Int
 key:D32
 vs:Sv
 hash:D32
 left:Int
 right:Int
 size:Int
 held:Int
 count:Int
def Slo.cells(x:Slo):List Value:=x.dig.c++([Value.int .u8 (x.kind:Int)]++([Value.int .i64 x.depth]++(x.key.c++([x.vs.v]++(x.hash.c++([Value.int .i64 x.left]++([Value.int .i64 x.right]++([Value.int .i64 x.size]++([Value.int .i64 x.held]++([Value.int .i64 x.count]++[]))))))))))
theorem Slo.len(x:Slo):x.cells.length=104:=by
 simp only[Slo.cells,qp,D32.cl,qr,qs]
theorem Slo.one(x:Slo):∀ u∈x.cells,u.oneCell'=true:=by
 intro u hu;simp only[Slo.cells,List.mem_append,List.mem_cons,List.not_mem_nil,or_false] at hu;rcases hu with hu | rfl | rfl | hu | rfl | hu | rfl | rfl | rfl | rfl | rfl
 ·exact D32.c1 _ u hu
 ·rfl
 ·rfl
 ·exact D32.c1 _ u hu
 ·rfl
 ·exact D32.c1 _ u hu
 ·rfl
 ·rfl
 ·rfl
 ·rfl
 ·rfl
def Slo.z:Slo:=⟨D32.z,0,0,D32.z,Sv.nil,D32.z,0,0,0,0,0⟩
theorem Slo.g_count(x:Slo):x.cells[103]? = some (Value.int .i64 x.count):=by unfold Slo.cells;exact Zg
theorem Slo.s_count(x:Slo)(y:Int):x.cells.set 103 (iV y)=({x with count:=y}:Slo).cells:=by unfold Slo.cells;exact Zs
structure Plc where
 above:Sv
 fin:Int
 same:Bool
 other:Bool
def Plc.cells(x:Plc):List Value:=[x.above.v]++([Value.int .i64 x.fin]++([Value.bool x.same]++([Value.bool x.other]++[])))
theorem Plc.len(x:Plc):x.cells.length=4:=by
 simp only[Plc.cells,qp,D32.cl,qr,qs]
theorem Plc.one(x:Plc):∀ u∈x.cells,u.oneCell'=true:=by
 intro u hu;simp only[Plc.cells,List.mem_append,List.mem_cons,List.not_mem_nil,or_false] at hu;rcases hu with rfl | rfl | rfl | rfl
 ·rfl
 ·rfl
 ·rfl
 ·rfl
def Plc.z:Plc:=⟨Sv.nil,0,false,false⟩
theorem Plc.g_above(x:Plc):x.cells[0]? = some (x.above.v):=by unfold Plc.cells;exact Zg
theorem Plc.s_above(x:Plc)(y:Sv):x.cells.set 0 (y.v)=({x with above:=y}:Plc).cells:=by unfold Plc.cells;exact Zs
theorem Plc.g_fin(x:Plc):x.cells[1]? = some (Value.int .i64 x.fin):=by unfold Plc.cells;exact Zg
theorem Plc.s_fin(x:Plc)(y:Int):x.cells.set 1 (iV y)=({x with fin:=y}:Plc).cells:=by unfold Plc.cells;exact Zs
theorem Plc.g_same(x:Plc):x.cells[2]? = some (Value.bool x.same):=by unfold Plc.cells;exact Zg
theorem Plc.s_same(x:Plc)(y:Bool):x.cells.set 2 (Value.bool y)=({x with same:=y}:Plc).cells:=by unfold Plc.cells;exact Zs
theorem Plc.g_other(x:Plc):x.cells[3]? = some (Value.bool x.other):=by unfold Plc.cells;exact Zg
theorem Plc.s_other(x:Plc)(y:Bool):x.cells.set 3 (Value.bool y)=({x with other:=y}:Plc).cells:=by unfold Plc.cells;exact Zs
def Prv.nod(x:Prv):Nod:=⟨x.kind,x.key,x.val,x.left,x.right⟩
def Prv.setN(x:Prv)(n:Nod):Prv:=⟨x.sides,n.kind,n.key,n.val,n.left,n.right⟩
theorem Prv.s_nod(x:Prv)(n:Nod):splice x.cells 1 n.cells=(x.setN n).cells:=by
 have e:x.cells = [x.sides.v]++(x.nod.cells++[]):=by simp only[Prv.cells,Nod.cells,Prv.nod,qo,qn,qu,qm]
 have h:=xbl [x.sides.v] x.nod.cells [] n.cells (by rw[Nod.len,Nod.len]);rw[List.length_singleton,← e] at h;rw[h];simp only[Prv.cells,Nod.cells,Prv.setN,qo,qn,qu,qm]
def Nd.slo(x:Nd)(c:Int):Slo:=⟨x.dig,x.kind,x.depth,x.key,x.vs,x.hash,x.left,x.right,x.size,x.held,c⟩
theorem Nd.slo_cells(x:Nd)(c:Int):(x.slo c).cells=x.cells++[iV c]:=by simp only[Slo.cells,Nd.cells,Nd.slo,qo,qn,qu,qm]
section
variable {P:Program}{T E:TypeId}{z b:Nat}{zv:Value}{w:World}{o:Oper}{a:Act}{K:Act→World→Prop}{Q:Exit→Act→World→Prop}
theorem xkj(B:ST P T E z)(I:ET P E zv z b)(hz:z≤10000)(x:Operand)(ho:o.op=.buildSlice T 1 #[(0,x)])(v:Value)(hx:a.eval x=v)(hl:v.cells.size=z)
  (h:K (a.put o.dst (.slice (some ⟨w.heap.size,0,none⟩) 1 1)) (w.alloc (.cells v.cells E))):o.wp P a w K Q:=by
 obtain⟨i,hi,hzz,hsz,_⟩:=info_parts I.i;have hp:=I.p;have e:(w.alloc (.cells v.cells E))=(w.alloc (.cells ((List.map (fun v:Value=>v) [v]).flatMap fun v=>v.cells.toList).toArray E)):=by simp
 refine wp_buildSlice T E 1 _ ho _ i _ B.t hi hzz (by rw[hsz];omega) (by rw[hsz];omega) ?_ (by rw[e] at h;exact h);have h2:((#[(0,x)]:Array (Nat×Operand)).map fun(i,x)=>(i,a.eval x)).toList=(([v]:List Value).zipIdx 0).map fun x=>(x.2,x.1):=by simp[hx]
 rw[h2,hsz,Great.fill_whole hp _ _ ?_ ?_]
 ·simp
 ·intro u hu
  simp at hu;subst hu;exact hl
 ·simp
theorem xif(B:ST P T E z)(I:ET P E zv z b)(hz:z≤10000)(x:Operand)(ho:o.op=.buildSlice T 1 #[(0,x)])(cs:List Value)(hx:a.eval x=.agg cs.toArray)(hl:cs.length=z)
  (h:K (a.put o.dst (.slice (some ⟨w.heap.size,0,none⟩) 1 1)) (w.alloc (.cells cs.toArray E))):o.wp P a w K Q :=
 xkj B I hz x ho _ hx (by simpa[Value.cells] using hl) h
theorem xg7(B:ST P T E 1)(I:ET P E zv 1 b)(x:Operand)(ho:o.op=.buildSlice T 1 #[(0,x)])(v:Value)(hx:a.eval x=v)(h1:v.oneCell'=true)
  (h:K (a.put o.dst (.slice (some ⟨w.heap.size,0,none⟩) 1 1)) (w.alloc (.cells [v].toArray E))):o.wp P a w K Q:=by
 have hv:v.cells=#[v]:=by cases v<;>first | rfl | (simp[Value.oneCell'] at h1)
 exact xkj B I (by omega) x ho v hx (by rw[hv];rfl) (by rw[hv];exact h)
theorem xes(B:ST P T E z)(I:ET P E zv z b)(s x:Operand)(ho:o.op=.call { callee:=.builtin .append,args:=#[s,x],argTypes:=#[T,T] })(v:Sv)(n:Nat)(xs:List Value)(hs:a.eval s=v.v)
  (hown:w.ownsRow 0 E z v.v n xs) (ad:Addr) (m c:Nat) (ys:List Value) (hx:a.eval x=.slice (some ad) m c) (hr:Rd w (some ad) ys) (hy:ys.length=m*z) (h1:∀ u∈ys,u.oneCell'=true) (hm:0<m)
  (hbytes:(n+m)*b≤140737488355328) (h63:n+m≤140737488355328)
  (h:∀ (v':Sv) w',w'.ownsRow 0 E z v'.v (n+m) (xs++ys)→w.grownBy w' v.v.ownBlock→(∀ k,v'.v.ownBlock=some k→v.v.ownBlock=some k∨k=w.heap.size)→(∀ k,v'.v.ownBlock=some k→k<w'.heap.size)→K (a.put o.dst v'.v) w'):o.wp P a w K Q:=by
 obtain⟨i,hi,hzz,hsz,hb⟩:=info_parts I.i;have hp:=I.p;have hpos:0<ys.length:=by rw[hy];exact Nat.mul_pos hm hp
 obtain⟨ad',e,hc⟩:=hr hpos;cases e;refine wp_append_lies w s x T ho 0 E i _ z b B.t hi hzz hsz hb I.c hp v.v n xs hs hown ad m c ys hx hy hc h1 hm (by unfold maxLen;omega) hbytes (Nat.zero_le _) w.heap.size rfl ?_;intro g cap w' h2 h3 h4 h5;refine h ⟨aS g,n+m,cap⟩ w' h2 h3 ?_ ?_
 ·intro k hk
  simp[Sv.v,Value.ownBlock] at hk;subst hk;rcases h4 with h4 | h4
  ·exact .inl h4
  ·exact .inr h4
 ·intro k hk
  simp[Sv.v,Value.ownBlock] at hk;subst hk;exact h5
end
section
variable {P:Program}{T E:TypeId}{z b:Nat}{zv:Value}{w0 w:World}{D:Nat→Prop}{L:BL}{ops:Array Oper}{rest:List Oper}{o:Oper}{a:Act}{K:Act→World→Prop}{Q:Exit→Act→World→Prop}
theorem xd9(B:ST P T E 1)(I:ET P E zv 1 b)(hgd:o.guard=none)(x:Operand)(ho:o.op=.buildSlice T 1 #[(0,x)])(H:Loc w0 D L w)(v:Value)(hx:a.eval x=v)(h1:v.oneCell'=true)
  (h:∀ g w',Loc w0 D ((g,E,[v])::L) w'→wpList P ops Q rest (a.put o.dst (.slice (aS g) 1 1)) w'):wpList P ops Q (o::rest) a w :=
 wpList_plain hgd fun K hK=>xg7 B I x ho v hx h1 (hK _ _ (h _ _ (H.new E [v])))
theorem xb2(B:ST P T E z)(I:ET P E zv z b)(hz:z≤10000)(hgd:o.guard=none)(x:Operand)(ho:o.op=.buildSlice T 1 #[(0,x)])(H:Loc w0 D L w)(cs:List Value)(hx:a.eval x=.agg cs.toArray)(hl:cs.length=z)
  (h:∀ g w',Loc w0 D ((g,E,cs)::L) w'→wpList P ops Q rest (a.put o.dst (.slice (aS g) 1 1)) w'):wpList P ops Q (o::rest) a w :=
 wpList_plain hgd fun K hK=>xif B I hz x ho cs hx hl (hK _ _ (h _ _ (H.new E cs)))
def Rest(w:World)(L:BL):Nat→Prop:=fun k=>k<w.heap.size∧∀ x∈L,x.1≠k
theorem Loc.redo(H:Loc w0 D L w){T:Nat→Prop}{w':World}(hf:Fr T w w')(hL:∀ x∈L,¬ T x.1):Loc w' (Rest w' L) L w' :=
 H.anew hf hL _ (fun k hk=>hk.1) (fun x hx hk=>hk.2 x hx rfl)
theorem xm6(B:ST P T E z)(I:ET P E zv z b)(s x:Operand)(ho:o.op=.call { callee:=.builtin .append,args:=#[s,x],argTypes:=#[T,T] })(gy t:Nat)(ys:List Value)(H:Loc w0 D ((gy,t,ys)::L) w)(v:Sv)(n:Nat)(xs:List Value)(hs:a.eval s=v.v)
  (hown:w0.ownsRow 0 E z v.v n xs) (hD:∀ k,v.v.ownBlock=some k→D k) (m c:Nat) (hx:a.eval x=.slice (aS gy) m c) (hy:ys.length=m*z) (h1:∀ u∈ys,u.oneCell'=true) (h0:0<m)
  (hbytes:(n+m)*b≤140737488355328) (h63:n+m≤140737488355328)
  (h:∀ (v':Sv) w',w'.ownsRow 0 E z v'.v (n+m) (xs++ys)→Fr (fun k=>¬ D k∨v.v.ownBlock=some k) w0 w'→(∀ k,v'.v.ownBlock=some k→Rest w' L k∧(v.v.ownBlock=some k∨w0.heap.size≤k))→Loc w' (Rest w' L) L w'→K (a.put o.dst v'.v) w'):o.wp P a w K Q:=by
 have hr:Rd w (aS gy) ys:=Rd.of_blk0 (es:=[]) (by simpa using H.blk (.head _))
 have hown':w.ownsRow 0 E z v.v n xs:=by
  obtain⟨hl,h⟩:=hown;rcases h with⟨h3,h4⟩ | ⟨g,cap,cur,h3,hg,hh,hn,hm,hs,ht⟩
  ·exact⟨hl,.inl ⟨h3,h4⟩⟩
  ·exact⟨hl,.inr ⟨g,cap,cur,h3,hg,by rw[H.heap (hD g (by rw[h3];rfl))];exact hh,hn,hm,hs,ht⟩⟩
 refine xes B I s x ho v n xs hs hown' _ m c ys hx hr hy h1 h0 hbytes h63 ?_;intro v' w' h2 h3 h4 h5;have hf:Fr (fun k=>v.v.ownBlock=some k) w w':=(Fr.refl _ _).grown h3 (fun g e=>.inl e);have hL:∀ x∈L,¬ v.v.ownBlock=some x.1:=fun x hx e=>(H.own x (.tail _ hx)).1 (hD _ e)
 have hf0:Fr (fun k=>¬ D k∨v.v.ownBlock=some k) w0 w' :=
  ⟨hf.os.trans H.fr.os,hf.tape.trans H.fr.tape,hf.output.trans H.fr.output,Nat.le_trans H.fr.size hf.size,fun k hk hn =>
   (hf.block k (Nat.lt_of_lt_of_le hk H.fr.size) (fun e=>hn (.inr e))).trans (H.fr.block k hk (fun e=>hn (.inl e)))⟩
 refine(h v' w' h2 hf0 (fun k hk=>⟨⟨h5 k hk,?_⟩,?_⟩) ((H.drop L (sB _ _)).redo hf hL))
 ·intro y hy e
  rcases h4 k hk with h6 | h6
  ·exact hL y hy (e▸h6)
  ·have:=(H.own y (.tail _ hy)).2.lt
   omega
 ·rcases h4 k hk with h6 | h6
  ·exact .inl h6
  ·exact .inr (by have:=H.fr.size;omega)
theorem xt7(B:ST P T E z)(I:ET P E zv z b)(hgd:o.guard=none)(s x:Operand)(ho:o.op=.call { callee:=.builtin .append,args:=#[s,x],argTypes:=#[T,T] })(gy t:Nat)(ys:List Value)(H:Loc w0 D ((gy,t,ys)::L) w)(v:Sv)(n:Nat)(xs:List Value)(hs:a.eval s=v.v)
  (hown:w0.ownsRow 0 E z v.v n xs) (hD:∀ k,v.v.ownBlock=some k→D k) (m c:Nat) (hx:a.eval x=.slice (aS gy) m c) (hy:ys.length=m*z) (h1:∀ u∈ys,u.oneCell'=true) (h0:0<m)
  (hbytes:(n+m)*b≤140737488355328) (h63:n+m≤140737488355328)
  (h:∀ (v':Sv) w',w'.ownsRow 0 E z v'.v (n+m) (xs++ys)→Fr (fun k=>¬ D k∨v.v.ownBlock=some k) w0 w'→(∀ k,v'.v.ownBlock=some k→Rest w' L k∧(v.v.ownBlock=some k∨w0.heap.size≤k))→Loc w' (Rest w' L) L w'→wpList P ops Q rest (a.put o.dst v'.v) w'):wpList P ops Q (o::rest) a w :=
 wpList_plain hgd fun K hK=>xm6 B I s x ho gy t ys H v n xs hs hown hD m c hx hy h1 h0 hbytes h63 fun v' w' e1 e2 e3 e4=>hK _ _ (h v' w' e1 e2 e3 e4)
end
structure CF (P:Program)(n:Nat):Prop where
 f:∃ fn,P.funcs[n]? = some fn∧(fn.name== "runtime.NumGoroutine")=false∧fn.body.isNone=false
section
variable {P:Program}{w:World}{o:Oper}{a:Act}{Q:Exit→Act→World→Prop}{K:Act→World→Prop}
theorem xad{n:Nat}(C:CF P n){xs:List Operand}{ts:Array TypeId}(ho:o.op=.call { callee:=.value (.func n),args:=xs.toArray,argTypes:=ts })
  (args:List Value) (ha:xs.map a.eval=args) (hC:Calls P n args.toArray w fun e w'=>∃ v,e=.returned v∧K (a.put o.dst v) w'):o.wp P a w K Q:=by
 obtain⟨fn,h1,h2,h3⟩:=C.f;exact wp_callF h1 h2 h3 ho args.toArray (by rw[List.map_toArray,ha]) hC
theorem xb3{t e:TypeId}(ht:P.underlying t=some (.slice e))(x:Operand)(ho:o.op=.call { callee:=.builtin .len,args:=#[x],argTypes:=#[t] })(A:Option Addr)(n c:Nat)(hx:a.eval x=.slice A n c) :
  (execOp a.eval o).run P w=.ok (.value (iV n)) w:=by
 unfold execOp
 have e:(Builtin.len_ #[t] o.type #[.slice A n c]).run P w=.ok (iV n) w:=by
  simp[Builtin.len_,run_underlying ht];rfl
 simp only[ho,resolve,invoke,builtin,Sem.run_bind,Sem.run_pure,Result.andThen_ok,List.map_toArray,qk,ql,hx,e]
theorem xkk{ops:Array Oper}{rest:List Oper}(hw:Region.wanted o (yielded ops a.tmps)=true)(h:∀ K:Act→World→Prop,(∀ a w,wpList P ops Q rest a w→K a w)→o.wp P a w K Q):wpList P ops Q (o::rest) a w :=
 wpList_step fun K hK=>by rw[if_pos hw];exact h K hK
theorem xlj{ops:Array Oper}{rest:List Oper}(hw:Region.wanted o (yielded ops a.tmps)=false)(h:wpList P ops Q rest (a.put o.dst undef) w):wpList P ops Q (o::rest) a w:=by
 unfold wpList;rw[if_neg (by rw[hw];decide)];exact h
theorem xaz{t e:TypeId}{z:Nat}(B:ST P t e z)(x y:Operand)(ho:o.op=.indexAddr t x y)(ad:Addr)(n c i:Nat)(k:IntKind)(hx:a.eval x=.slice (some ad) n c)(hy:a.eval y=.int k (i:Int))(hi:i<n) :
  (execOp a.eval o).run P w=.ok (.value (.pointer (some (ad.add (i*z))))) w:=by
 have he:P.elem t=e:=by simp[Program.elem,B.t]
 have hr:=run_indexAt_slice (P:=P) (w:=w) t ad n c k (i:Int) (by rw[he];exact B.t);rw[he,if_pos (by omega),B.size] at hr;simp only[Result.andThen_ok,Int.toNat_natCast] at hr;unfold execOp;simp only[ho,hx,hy,Sem.run_bind,hr,Result.andThen_ok,Sem.run_pure]
theorem xap{t e:TypeId}{z:Nat}(B:ST P t e z)(x y:Operand)(ho:o.op=.indexAddr t x y)(G n c i:Nat)(k:IntKind)(hx:a.eval x=.slice (aS G) n c)(hy:a.eval y=.int k (i:Int))(hi:i<n) :
  (execOp a.eval o).run P w=.ok (.value (.pointer (some ⟨G,i*z,none⟩))) w:=by
 have:=xaz (w:=w) B x y ho _ n c i k hx hy hi;rwa [xei,Nat.zero_add] at this
end
abbrev Loc.P{w0:World}{D:Nat→Prop}{L:BL}{w:World}(_:Loc w0 D L w):World→Prop:=Loc w0 D L
theorem cf6:CF prog 6:=⟨_,func6,by kernel_rfl,rfl⟩
theorem cf10:CF prog 10:=⟨_,func10,by kernel_rfl,rfl⟩
theorem cf14:CF prog 14:=⟨_,func14,by kernel_rfl,rfl⟩
theorem cf22:CF prog 22:=⟨_,func22,by kernel_rfl,rfl⟩
theorem cf28:CF prog 28:=⟨_,func28,by kernel_rfl,rfl⟩
theorem cf29:CF prog 29:=⟨_,func29,by kernel_rfl,rfl⟩
theorem cf30:CF prog 30:=⟨_,func30,by kernel_rfl,rfl⟩
theorem cf31:CF prog 31:=⟨_,func31,by kernel_rfl,rfl⟩
theorem cf32:CF prog 32:=⟨_,func32,by kernel_rfl,rfl⟩
theorem cf33:CF prog 33:=⟨_,func33,by kernel_rfl,rfl⟩
theorem cf34:CF prog 34:=⟨_,func34,by kernel_rfl,rfl⟩
theorem cf35:CF prog 35:=⟨_,func35,by kernel_rfl,rfl⟩
theorem cf36:CF prog 36:=⟨_,func36,by kernel_rfl,rfl⟩
theorem cf37:CF prog 37:=⟨_,func37,by kernel_rfl,rfl⟩
theorem cf38:CF prog 38:=⟨_,func38,by kernel_rfl,rfl⟩
theorem cf39:CF prog 39:=⟨_,func39,by kernel_rfl,rfl⟩
theorem cf40:CF prog 40:=⟨_,func40,by kernel_rfl,rfl⟩
theorem cf41:CF prog 41:=⟨_,func41,by kernel_rfl,rfl⟩
theorem cf42:CF prog 42:=⟨_,func42,by kernel_rfl,rfl⟩
theorem cf43:CF prog 43:=⟨_,func43,by kernel_rfl,rfl⟩
theorem cf44:CF prog 44:=⟨_,func44,by kernel_rfl,rfl⟩
theorem cf45:CF prog 45:=⟨_,func45,by kernel_rfl,rfl⟩
theorem cf57:CF prog 57:=⟨_,func57,by kernel_rfl,rfl⟩
theorem cf72:CF prog 72:=⟨_,func72,by kernel_rfl,rfl⟩
theorem cf73:CF prog 73:=⟨_,func73,by kernel_rfl,rfl⟩
theorem cf74:CF prog 74:=⟨_,func74,by kernel_rfl,rfl⟩
theorem cf80:CF prog 80:=⟨_,func80,by kernel_rfl,rfl⟩
theorem cf81:CF prog 81:=⟨_,func81,by kernel_rfl,rfl⟩
theorem cf82:CF prog 82:=⟨_,func82,by kernel_rfl,rfl⟩
theorem cf83:CF prog 83:=⟨_,func83,by kernel_rfl,rfl⟩
theorem cf84:CF prog 84:=⟨_,func84,by kernel_rfl,rfl⟩
theorem cf85:CF prog 85:=⟨_,func85,by kernel_rfl,rfl⟩
theorem cf86:CF prog 86:=⟨_,func86,by kernel_rfl,rfl⟩
theorem cf87:CF prog 87:=⟨_,func87,by kernel_rfl,rfl⟩
theorem cf88:CF prog 88:=⟨_,func88,by kernel_rfl,rfl⟩
theorem cf89:CF prog 89:=⟨_,func89,by kernel_rfl,rfl⟩
theorem cf90:CF prog 90:=⟨_,func90,by kernel_rfl,rfl⟩
theorem cf91:CF prog 91:=⟨_,func91,by kernel_rfl,rfl⟩
theorem cf92:CF prog 92:=⟨_,func92,by kernel_rfl,rfl⟩
theorem cf93:CF prog 93:=⟨_,func93,by kernel_rfl,rfl⟩
theorem cf94:CF prog 94:=⟨_,func94,by kernel_rfl,rfl⟩
theorem cf95:CF prog 95:=⟨_,func95,by kernel_rfl,rfl⟩
theorem cf96:CF prog 96:=⟨_,func96,by kernel_rfl,rfl⟩
theorem cf105:CF prog 105:=⟨_,func105,by kernel_rfl,rfl⟩
theorem cf109:CF prog 109:=⟨_,func109,by kernel_rfl,rfl⟩
theorem cf110:CF prog 110:=⟨_,func110,by kernel_rfl,rfl⟩
theorem cf120:CF prog 120:=⟨_,func120,by kernel_rfl,rfl⟩
theorem cf121:CF prog 121:=⟨_,func121,by kernel_rfl,rfl⟩
theorem cf122:CF prog 122:=⟨_,func122,by kernel_rfl,rfl⟩
theorem cf123:CF prog 123:=⟨_,func123,by kernel_rfl,rfl⟩
theorem cf124:CF prog 124:=⟨_,func124,by kernel_rfl,rfl⟩
theorem cf125:CF prog 125:=⟨_,func125,by kernel_rfl,rfl⟩
theorem cf126:CF prog 126:=⟨_,func126,by kernel_rfl,rfl⟩
theorem cf127:CF prog 127:=⟨_,func127,by kernel_rfl,rfl⟩
theorem cf128:CF prog 128:=⟨_,func128,by kernel_rfl,rfl⟩
theorem cf129:CF prog 129:=⟨_,func129,by kernel_rfl,rfl⟩
theorem cf130:CF prog 130:=⟨_,func130,by kernel_rfl,rfl⟩
theorem cf131:CF prog 131:=⟨_,func131,by kernel_rfl,rfl⟩
theorem cf132:CF prog 132:=⟨_,func132,by kernel_rfl,rfl⟩
theorem cf133:CF prog 133:=⟨_,func133,by kernel_rfl,rfl⟩
theorem cf134:CF prog 134:=⟨_,func134,by kernel_rfl,rfl⟩
theorem cf135:CF prog 135:=⟨_,func135,by kernel_rfl,rfl⟩
theorem cf136:CF prog 136:=⟨_,func136,by kernel_rfl,rfl⟩
theorem cf137:CF prog 137:=⟨_,func137,by kernel_rfl,rfl⟩
theorem cf138:CF prog 138:=⟨_,func138,by kernel_rfl,rfl⟩
theorem cf139:CF prog 139:=⟨_,func139,by kernel_rfl,rfl⟩
theorem cf140:CF prog 140:=⟨_,func140,by kernel_rfl,rfl⟩
theorem cf141:CF prog 141:=⟨_,func141,by kernel_rfl,rfl⟩
theorem cf142:CF prog 142:=⟨_,func142,by kernel_rfl,rfl⟩
theorem cf143:CF prog 143:=⟨_,func143,by kernel_rfl,rfl⟩
theorem cf144:CF prog 144:=⟨_,func144,by kernel_rfl,rfl⟩
theorem cf145:CF prog 145:=⟨_,func145,by kernel_rfl,rfl⟩
theorem cf146:CF prog 146:=⟨_,func146,by kernel_rfl,rfl⟩
theorem cf147:CF prog 147:=⟨_,func147,by kernel_rfl,rfl⟩
theorem cf148:CF prog 148:=⟨_,func148,by kernel_rfl,rfl⟩
theorem cf149:CF prog 149:=⟨_,func149,by kernel_rfl,rfl⟩
theorem cf150:CF prog 150:=⟨_,func150,by kernel_rfl,rfl⟩
theorem cf151:CF prog 151:=⟨_,func151,by kernel_rfl,rfl⟩
theorem cf152:CF prog 152:=⟨_,func152,by kernel_rfl,rfl⟩
theorem cf153:CF prog 153:=⟨_,func153,by kernel_rfl,rfl⟩
theorem cf154:CF prog 154:=⟨_,func154,by kernel_rfl,rfl⟩
theorem cf155:CF prog 155:=⟨_,func155,by kernel_rfl,rfl⟩
theorem cf156:CF prog 156:=⟨_,func156,by kernel_rfl,rfl⟩
theorem cf166:CF prog 166:=⟨_,func166,by kernel_rfl,rfl⟩
theorem cf167:CF prog 167:=⟨_,func167,by kernel_rfl,rfl⟩
theorem cf168:CF prog 168:=⟨_,func168,by kernel_rfl,rfl⟩
theorem cf169:CF prog 169:=⟨_,func169,by kernel_rfl,rfl⟩
theorem cf181:CF prog 181:=⟨_,func181,by kernel_rfl,rfl⟩
theorem cf182:CF prog 182:=⟨_,func182,by kernel_rfl,rfl⟩
theorem cf183:CF prog 183:=⟨_,func183,by kernel_rfl,rfl⟩
theorem cf184:CF prog 184:=⟨_,func184,by kernel_rfl,rfl⟩
theorem cf185:CF prog 185:=⟨_,func185,by kernel_rfl,rfl⟩
theorem cf186:CF prog 186:=⟨_,func186,by kernel_rfl,rfl⟩
theorem cf187:CF prog 187:=⟨_,func187,by kernel_rfl,rfl⟩
theorem cf188:CF prog 188:=⟨_,func188,by kernel_rfl,rfl⟩
theorem cf189:CF prog 189:=⟨_,func189,by kernel_rfl,rfl⟩
theorem cf190:CF prog 190:=⟨_,func190,by kernel_rfl,rfl⟩
theorem cf191:CF prog 191:=⟨_,func191,by kernel_rfl,rfl⟩
theorem cf192:CF prog 192:=⟨_,func192,by kernel_rfl,rfl⟩
theorem cf193:CF prog 193:=⟨_,func193,by kernel_rfl,rfl⟩
theorem cf203:CF prog 203:=⟨_,func203,by kernel_rfl,rfl⟩
theorem cf204:CF prog 204:=⟨_,func204,by kernel_rfl,rfl⟩
theorem cf205:CF prog 205:=⟨_,func205,by kernel_rfl,rfl⟩
theorem cf206:CF prog 206:=⟨_,func206,by kernel_rfl,rfl⟩
theorem cf207:CF prog 207:=⟨_,func207,by kernel_rfl,rfl⟩
theorem cf208:CF prog 208:=⟨_,func208,by kernel_rfl,rfl⟩
theorem cf210:CF prog 210:=⟨_,func210,by kernel_rfl,rfl⟩
theorem cf212:CF prog 212:=⟨_,func212,by kernel_rfl,rfl⟩
theorem cf213:CF prog 213:=⟨_,func213,by kernel_rfl,rfl⟩
theorem cf219:CF prog 219:=⟨_,func219,by kernel_rfl,rfl⟩
theorem cf223:CF prog 223:=⟨_,func223,by kernel_rfl,rfl⟩
theorem cf224:CF prog 224:=⟨_,func224,by kernel_rfl,rfl⟩
theorem cf225:CF prog 225:=⟨_,func225,by kernel_rfl,rfl⟩
theorem cf226:CF prog 226:=⟨_,func226,by kernel_rfl,rfl⟩
theorem cf227:CF prog 227:=⟨_,func227,by kernel_rfl,rfl⟩
theorem cf228:CF prog 228:=⟨_,func228,by kernel_rfl,rfl⟩
theorem cf229:CF prog 229:=⟨_,func229,by kernel_rfl,rfl⟩
theorem cf230:CF prog 230:=⟨_,func230,by kernel_rfl,rfl⟩
theorem cf231:CF prog 231:=⟨_,func231,by kernel_rfl,rfl⟩
theorem cf232:CF prog 232:=⟨_,func232,by kernel_rfl,rfl⟩
theorem cf233:CF prog 233:=⟨_,func233,by kernel_rfl,rfl⟩
theorem cf234:CF prog 234:=⟨_,func234,by kernel_rfl,rfl⟩
theorem cf235:CF prog 235:=⟨_,func235,by kernel_rfl,rfl⟩
theorem cf242:CF prog 242:=⟨_,func242,by kernel_rfl,rfl⟩
theorem cf243:CF prog 243:=⟨_,func243,by kernel_rfl,rfl⟩
theorem cf248:CF prog 248:=⟨_,func248,by kernel_rfl,rfl⟩
theorem cf250:CF prog 250:=⟨_,func250,by kernel_rfl,rfl⟩
theorem cf252:CF prog 252:=⟨_,func252,by kernel_rfl,rfl⟩
end Go.Proofs.YtkjjdgnkelchfaaGreat
