import Derived.Test.YtkjjdgnkelchfaaGreatPNU6
set_option linter.unusedSimpArgs false
set_option linter.unusedVariables false
set_option maxRecDepth 100000
set_option maxHeartbeats 16000000
namespace Go.Proofs.YtkjjdgnkelchfaaGreat
open Go Go.RowKit Go.Proofs.Tryz
def xhi(p:LU)(d:Int):LU:=if 0≤d∧d<256 then be 32 (xlu (nOf p) d.toNat) else keyZ
def xo6(d:Int):Int:=if 0≤d∧d<256 then 0 else 2
theorem xm8(p:LU)(d:Int):(xhi p d).length=32:=by unfold xhi;split;exact xca _ _;exact xa7
theorem xo7:∀ x,x<256→∀ k,k<8→(x ^^^ (128 / 2^k)<256∧∀ e,e<8→(x ^^^ (128 / 2^k)).testBit (7 - e)=if e=k then !x.testBit (7 - e) else x.testBit (7 - e)):=by decide +kernel
theorem flip_set(p:LU)(n:Nat)(hp:p.length=32)(hn:n<256):p.set (n / 8) (UInt8.ofNat ((p.getD (n / 8) 0).toNat ^^^ (128 / 2^(n%8))))=be 32 (xlu (nOf p) n):=by
 apply key_of (by simp[hp]) (xom _ _ (xeh hp) hn);intro e he;have h1:=xo7 (p.getD (n / 8) 0).toNat (UInt8.toNat_lt _) (n%8) (by omega);have e1:=xdw p hp e he;rw[xlv _ _ _ he hn,← e1];unfold tb;rw[xo3 _ _ _ _ (by omega)];by_cases h:e / 8=n / 8
 ·rw[if_pos h,UInt8.toNat_ofNat_of_lt' h1.1,h1.2 _ (by omega),h]
  by_cases h2:e=n
  ·rw[if_pos (by omega),if_pos h2]
  ·rw[if_neg (by omega),if_neg h2]
 ·rw[if_neg h,if_neg (by rintro rfl;exact h rfl)]
theorem xor_word(x n:Nat)(hx:x<256):bits .xor .u8 (x:Int) (128 / 2^((n:Int)%8).toNat)=((x ^^^ (128 / 2^(n%8)):Nat):Int):=by
 have e1:((n:Int)%8).toNat=n%8:=by omega
 have e2:(128:Int) / 2^(n%8)=((128 / 2^(n%8):Nat):Int):=by simp
 have e3:128 / 2^(n%8)<256:=Nat.lt_of_le_of_lt (Nat.div_le_self _ _) (by omega);rw[e1,e2,u8_xor_nat _ _ hx e3]
theorem flip_any(p:LU)(d:Int)(w:World)(hp:p.length=32)(hd : -9223372036854775808≤d∧d≤9223372036854775807) :
  Calls prog 168 #[arr8 p,iV d] w (oB w (.tuple #[arr8 (xhi p d),iV (xo6 d)])):=by
 have HP:=hZ hp;have h2:=Two.mk' w 24 p keyZ;by_cases hr:0≤d∧d<256
 ·unfold xhi xo6
  rw[if_pos hr,if_pos hr];obtain⟨n,rfl⟩:=Int.eq_ofNat_of_zero_le hr.1;have hn:n<256:=by omega
  have hlx:=hZ (flip_set p n hp hn);rw[Int.toNat_natCast];clear hr hd;obtain⟨x,hx⟩:∃ x,x=(p.getD (n / 8) 0).toNat:=⟨_,rfl⟩;have hx8:x<256:=by rw[hx];exact UInt8.toNat_lt _
  obtain⟨m,hmm⟩:∃ m,m=n / 8:=⟨_,rfl⟩;have k2:IntKind.i64.wrap ((n:Int) / 8)=(m:Int):=by rw[IntWalk.i64_in _ (by omega)];omega
  have k3:(m:Int)<32:=by omega
  have kx:=xor_word x n hx8;have hx8':x ^^^ (128 / 2^(n%8))<256:=(xo7 x hx8 (n%8) (by omega)).1;rw[← hx,← hmm] at hlx;have HM:=hZ hmm;have HX:=hZ hx;clear hmm hx hp;generalize be 32 (xlu (nOf p) n)=y at *;generalize hz:x ^^^ (128 / 2^(n%8))=z at *;have HZ:=hZ hz;clear hz;unfold arr8;go_enter func168,ntmps168;go_wp2_with fail;generalize hW:World.alloc (World.alloc w _) _=w0;have h3:Two w w0 24 p keyZ:=by rw[← hW];exact h2
  clear h2 hW
  have hc:w0.cell? ⟨w.heap.size,m,none⟩=some (.int .u8 (x:Int)):=by
   rw[HX.out,HM.out];exact xhd h3.p HP.out _ (by omega)
  have hf:=h3.p.free m;refine rB (fun W=>W=w0.drew) [8] [5,8] [0,1,2,3,4,5,6,7,8] 0 ?_;refine X4 ?_;have hS:(fun W=>W=w0.drew) _:=rfl;refine X8 ?_;refine X8 ?_;refine X7 ?_;refine xc0 rfl rfl ?_;intro K hK;go_simp;refine(xow n _ (by omega) (by omega)).mono ?_;rintro e w1 ⟨rfl,rfl⟩;refine hK _ _ (fun _=>hS) ?_;clear hK;refine X8 ?_;refine xc0 rfl rfl ?_;intro K hK;go_simp;refine Xi ?_;clear hK;refine Xa ?_;have hy:Hid (y.length=32):=by show _=_;rw[← hlx.out];simp[HP.out]
  have hb1:Blk (w0.setCell ⟨w.heap.size,m,none⟩ (.int .u8 (z:Int))).drew w.heap.size 24 (bvs y):=by
   have h1:=h3.p.set_ m (bv (UInt8.ofNat z));rw[xmx,hlx.out,xqq _ hx8'] at h1;exact h1.drew
  have hb2:Blk (w0.setCell ⟨w.heap.size,m,none⟩ (.int .u8 (z:Int))).drew (w.heap.size+1) 24 (bvs keyZ):=(h3.q.far (by simp) _).drew;have hB1:Below w.heap.size w (w0.setCell ⟨w.heap.size,m,none⟩ (.int .u8 (z:Int))).drew:=(h3.b.setCell (Nat.le_refl _) _).drew
  go_wp2_with (first
   | ((with_reducible refine xa4 21 ?_);refine xaa rfl _ (xba at23' (.tmp 2) rfl _ 24 (bvs y) rfl hb1 (by rw[xae];exact hy.out)) ?_)
   | ((with_reducible refine xeg (Op.store 24 (.tmp 4) (.tmp 21)) ?_)
      refine xal at23'.i rfl (.tmp 4) (.tmp 21) rfl (w.heap.size+1) 0 24 (bvs keyZ) (bvs y) rfl rfl hb2 (by rw[xae];exact hy.out) (by rw[xae];simp[keyZ]) (xb0 _) ?_
      intro w1 hb3 hg1 hs1))
  refine Xc ?_;rw[xc4 _ hy.out] at hb3;refine bodyPost_ret (xay rfl at23' _ _ (w.heap.size+1) 24 (bvs y) rfl hb3 (by rw[xae];exact hy.out)) rfl ?_;exact⟨rfl,hB1.grown hg1 hB1.size (by intro k hk;cases hk;omega)⟩
 ·unfold xhi xo6
  rw[if_neg hr,if_neg hr];clear hp;unfold arr8;by_cases h0:d<0
  ·go_enter func168,ntmps168
   go_wp2_with (
      (with_reducible refine xeg (Op.store 24 (.tmp 4) (.tmp 12)) ?_);refine xal at23'.i rfl (.tmp 4) (.tmp 12) rfl (w.heap.size+1) 0 24 (bvs keyZ) (bvs keyZ) rfl rfl h2.q (by rw[xae];exact xa7) (by rw[xae];simp[keyZ]) (xb0 _) ?_
      intro w1 hb1 hg1 hs1)
   refine Xc ?_;rw[xc4 _ xa7] at hb1;refine bodyPost_ret (xay rfl at23' _ _ (w.heap.size+1) 24 (bvs keyZ) rfl hb1 (by rw[xae];exact xa7)) rfl ?_;exact⟨rfl,h2.b.grown hg1 h2.b.size (by intro k hk;cases hk;omega)⟩
  ·have h1:256≤d:=by omega
   go_enter func168,ntmps168
   go_wp2_with (
      (with_reducible refine xeg (Op.store 24 (.tmp 4) (.tmp 12)) ?_);refine xal at23'.i rfl (.tmp 4) (.tmp 12) rfl (w.heap.size+1) 0 24 (bvs keyZ) (bvs keyZ) rfl rfl h2.q (by rw[xae];exact xa7) (by rw[xae];simp[keyZ]) (xb0 _) ?_
      intro w1 hb1 hg1 hs1)
   refine Xc ?_;rw[xc4 _ xa7] at hb1;refine bodyPost_ret (xay rfl at23' _ _ (w.heap.size+1) 24 (bvs keyZ) rfl hb1 (by rw[xae];exact xa7)) rfl ?_;exact⟨rfl,h2.b.grown hg1 h2.b.size (by intro k hk;cases hk;omega)⟩
def tagE:D32:=⟨shaL [0],xcm _⟩
def tagV(l:LU):D32:=⟨shaL (3::l),xcm _⟩
def tagL(k v:D32):D32:=⟨shaL (1::(k.l++v.l)),xcm _⟩
def tagI(a b:D32):D32:=⟨shaL (2::(a.l++b.l)),xcm _⟩
def xo8(p:D32)(d:Int)(b:Bool):D32:=⟨xgz p.l d b,xhh _ _ _⟩
def xf3(p:D32)(d:Int):D32:=⟨xhi p.l d,xm8 _ _⟩
abbrev D32.a(x:D32):Value:=.agg x.c.toArray
section
variable (w:World)
theorem empty_d:Calls prog 43 #[] w (oB w tagE.a):=xub w
theorem xjn(A:Option Addr)(n c:Nat)(l:LU)(hr:Rd w A (bvs l))(hl:l.length=n)(hcap:n≤c)(hmax:c≤maxLen)(hn:n≤140737488351232) :
  Calls prog 42 #[.slice A n c] w fun e w'=>e=.returned (tagV l).a∧Bw w w':=xuc A n c l w hr hl hcap hmax hn
theorem xig(k v:D32):Calls prog 41 #[k.a,v.a] w fun e w'=>e=.returned (tagL k v).a∧Bw w w':=leaf_any k.l v.l w k.h v.h
theorem xgp(k v:D32):Calls prog 44 #[k.a,v.a] w fun e w'=>e=.returned (tagI k v).a∧Bw w w':=xud k.l v.l w k.h v.h
theorem xgq(p q:D32):Calls prog 14 #[p.a,q.a] w (oB w (.int .i64 (cmpZ (nOf p.l) (nOf q.l)))):=xox p.l q.l w p.h q.h
theorem xkp(p q:D32):Calls prog 147 #[p.a,q.a] w (oB w (iV (comm p.l q.l:Nat))):=xkn p.l q.l w p.h q.h
theorem under_d(p q:D32)(d:Int)(hd : -9223372036854775808≤d∧d≤9223372036854775807):Calls prog 105 #[p.a,q.a,iV d] w (oB w (.bool (xdz p.l q.l d))):=xug p.l q.l d w p.h q.h hd
theorem bit_d(p:D32)(d:Int)(hd : -9223372036854775808≤d∧d≤9223372036854775807):Calls prog 150 #[p.a,iV d] w (oB w (iV (bitZ p.l d))):=bit_any p.l d w p.h hd
theorem xm9(p:D32)(d:Int)(hd : -9223372036854775808≤d∧d≤9223372036854775807):Calls prog 219 #[p.a,iV d] w (oB w (.tuple #[(xo8 p d false).a,iV (fillE d)])):=xuh p.l d w p.h hd
theorem flip_d(p:D32)(d:Int)(hd : -9223372036854775808≤d∧d≤9223372036854775807):Calls prog 168 #[p.a,iV d] w (oB w (.tuple #[(xf3 p d).a,iV (xo6 d)])):=flip_any p.l d w p.h hd
theorem xr6(p:D32):Calls prog 35 #[p.a] w fun e w'=>∃ v,e=.returned v∧OwnB w' w.heap.size 5 v p.l∧Bw w w':=xt2 p.l w p.h
theorem of_d(A:Option Addr)(n c:Nat)(p:D32)(hr:Rd w A (bvs p.l))(hl:n=32)(hc:n≤c):Calls prog 40 #[.slice A n c] w (oB w (.tuple #[p.a,iV 0])):=by
 have h:=of_any A n c p.l w hr (by rw[p.h,hl]) (by omega) hc;rw[if_pos p.h,if_pos p.h] at h;exact h
end
theorem xih(w:World)(p:D32)(d:Nat)(hd:d<256):Calls prog 150 #[p.a,iV d] w (oB w (.int .i64 ((tb p.l d).toNat:Int))):=by
 have h:=bit_d w p (d:Int) (by omega);rwa [show bitZ p.l (d:Int)=((tb p.l d).toNat:Int) by unfold bitZ;rw[if_pos ⟨by omega,by omega⟩,Int.toNat_natCast]] at h
theorem fa32_1:FA prog 32 1 1:=⟨_,_,underlying32,rfl,rfl,by kernel_rfl⟩
theorem fa32_2:FA prog 32 2 33:=⟨_,_,underlying32,rfl,rfl,by kernel_rfl⟩
theorem xqs:FA prog 34 0 0:=⟨_,_,underlying34,rfl,rfl,by kernel_rfl⟩
theorem fa34_1:FA prog 34 1 1:=⟨_,_,underlying34,rfl,rfl,by kernel_rfl⟩
theorem xna:FA prog 44 0 0:=⟨_,_,underlying44,rfl,rfl,by kernel_rfl⟩
theorem fa61_0:FA prog 61 0 0:=⟨_,_,underlying61,rfl,rfl,by kernel_rfl⟩
theorem fa61_1:FA prog 61 1 32:=⟨_,_,underlying61,rfl,rfl,by kernel_rfl⟩
theorem fa80_0:FA prog 80 0 0:=⟨_,_,underlying80,rfl,rfl,by kernel_rfl⟩
theorem fa80_1:FA prog 80 1 1:=⟨_,_,underlying80,rfl,rfl,by kernel_rfl⟩
theorem fa80_2:FA prog 80 2 2:=⟨_,_,underlying80,rfl,rfl,by kernel_rfl⟩
theorem fa124_0:FA prog 124 0 0:=⟨_,_,underlying124,rfl,rfl,by kernel_rfl⟩
theorem xjo:FA prog 124 1 1:=⟨_,_,underlying124,rfl,rfl,by kernel_rfl⟩
theorem xjp:FA prog 124 2 33:=⟨_,_,underlying124,rfl,rfl,by kernel_rfl⟩
theorem fa124_3:FA prog 124 3 65:=⟨_,_,underlying124,rfl,rfl,by kernel_rfl⟩
theorem fa159_0:FA prog 159 0 0:=⟨_,_,underlying159,rfl,rfl,by kernel_rfl⟩
theorem fa159_1:FA prog 159 1 1:=⟨_,_,underlying159,rfl,rfl,by kernel_rfl⟩
theorem xr7:FA prog 159 2 2:=⟨_,_,underlying159,rfl,rfl,by kernel_rfl⟩
theorem fa159_3:FA prog 159 3 3:=⟨_,_,underlying159,rfl,rfl,by kernel_rfl⟩
theorem fa159_4:FA prog 159 4 4:=⟨_,_,underlying159,rfl,rfl,by kernel_rfl⟩
theorem xr8:FA prog 163 0 0:=⟨_,_,underlying163,rfl,rfl,by kernel_rfl⟩
theorem xr9:FA prog 166 0 0:=⟨_,_,underlying166,rfl,rfl,by kernel_rfl⟩
theorem xnb:FA prog 166 1 1:=⟨_,_,underlying166,rfl,rfl,by kernel_rfl⟩
theorem xsa:FA prog 166 2 2:=⟨_,_,underlying166,rfl,rfl,by kernel_rfl⟩
theorem xsb:FA prog 199 0 0:=⟨_,_,underlying199,rfl,rfl,by kernel_rfl⟩
theorem fa199_1:FA prog 199 1 1:=⟨_,_,underlying199,rfl,rfl,by kernel_rfl⟩
theorem xnc:FA prog 199 2 33:=⟨_,_,underlying199,rfl,rfl,by kernel_rfl⟩
theorem xhj:FA prog 222 0 0:=⟨_,_,underlying222,rfl,rfl,by kernel_rfl⟩
theorem fa222_1:FA prog 222 1 32:=⟨_,_,underlying222,rfl,rfl,by kernel_rfl⟩
theorem xhk:FA prog 222 2 33:=⟨_,_,underlying222,rfl,rfl,by kernel_rfl⟩
theorem fa228_0:FA prog 228 0 0:=⟨_,_,underlying228,rfl,rfl,by kernel_rfl⟩
theorem fa230_0:FA prog 230 0 0:=⟨_,_,underlying230,rfl,rfl,by kernel_rfl⟩
theorem fa230_1:FA prog 230 1 32:=⟨_,_,underlying230,rfl,rfl,by kernel_rfl⟩
theorem xnd:FA prog 230 2 33:=⟨_,_,underlying230,rfl,rfl,by kernel_rfl⟩
theorem xne:FA prog 230 3 34:=⟨_,_,underlying230,rfl,rfl,by kernel_rfl⟩
theorem fa230_4:FA prog 230 4 66:=⟨_,_,underlying230,rfl,rfl,by kernel_rfl⟩
theorem fa230_5:FA prog 230 5 67:=⟨_,_,underlying230,rfl,rfl,by kernel_rfl⟩
theorem xsc:FA prog 230 6 99:=⟨_,_,underlying230,rfl,rfl,by kernel_rfl⟩
theorem xsd:FA prog 230 7 100:=⟨_,_,underlying230,rfl,rfl,by kernel_rfl⟩
theorem xse:FA prog 230 8 101:=⟨_,_,underlying230,rfl,rfl,by kernel_rfl⟩
theorem xsf:FA prog 230 9 102:=⟨_,_,underlying230,rfl,rfl,by kernel_rfl⟩
theorem fa246_0:FA prog 246 0 0:=⟨_,_,underlying246,rfl,rfl,by kernel_rfl⟩
theorem xsg:FA prog 246 1 1:=⟨_,_,underlying246,rfl,rfl,by kernel_rfl⟩
theorem xsh:FA prog 246 2 2:=⟨_,_,underlying246,rfl,rfl,by kernel_rfl⟩
theorem xsi:FA prog 246 3 3:=⟨_,_,underlying246,rfl,rfl,by kernel_rfl⟩
theorem xnf:FA prog 256 0 0:=⟨_,_,underlying256,rfl,rfl,by kernel_rfl⟩
theorem fa259_0:FA prog 259 0 0:=⟨_,_,underlying259,rfl,rfl,by kernel_rfl⟩
theorem xsj:FA prog 259 1 1:=⟨_,_,underlying259,rfl,rfl,by kernel_rfl⟩
theorem xfv:FA prog 318 0 0:=⟨_,_,underlying318,rfl,rfl,by kernel_rfl⟩
theorem fa318_1:FA prog 318 1 1:=⟨_,_,underlying318,rfl,rfl,by kernel_rfl⟩
theorem xjq:FA prog 318 2 2:=⟨_,_,underlying318,rfl,rfl,by kernel_rfl⟩
theorem xng:FA prog 318 3 3:=⟨_,_,underlying318,rfl,rfl,by kernel_rfl⟩
theorem xsk:FA prog 340 0 0:=⟨_,_,underlying340,rfl,rfl,by kernel_rfl⟩
theorem xsl:FA prog 340 1 103:=⟨_,_,underlying340,rfl,rfl,by kernel_rfl⟩
theorem fa343_0:FA prog 343 0 0:=⟨_,_,underlying343,rfl,rfl,by kernel_rfl⟩
theorem fa343_1:FA prog 343 1 1:=⟨_,_,underlying343,rfl,rfl,by kernel_rfl⟩
theorem xsm:FA prog 343 2 2:=⟨_,_,underlying343,rfl,rfl,by kernel_rfl⟩
theorem xsn:FA prog 343 3 3:=⟨_,_,underlying343,rfl,rfl,by kernel_rfl⟩
theorem xso:FA prog 343 4 4:=⟨_,_,underlying343,rfl,rfl,by kernel_rfl⟩
theorem fa353_0:FA prog 353 0 0:=⟨_,_,underlying353,rfl,rfl,by kernel_rfl⟩
theorem fa353_1:FA prog 353 1 1:=⟨_,_,underlying353,rfl,rfl,by kernel_rfl⟩
theorem sc3:W1 prog 3:=⟨⟨_,underlying3,rfl⟩,by kernel_rfl⟩
theorem sc4:W1 prog 4:=⟨⟨_,underlying4,rfl⟩,by kernel_rfl⟩
theorem sc5:W1 prog 5:=⟨⟨_,underlying5,rfl⟩,by kernel_rfl⟩
theorem sc9:W1 prog 9:=⟨⟨_,underlying9,rfl⟩,by kernel_rfl⟩
theorem ag23:AT prog 23 32:=⟨⟨_,underlying23,rfl⟩,by kernel_rfl⟩
theorem ag24:AT prog 24 32:=⟨⟨_,underlying24,rfl⟩,by kernel_rfl⟩
theorem sc25:W1 prog 25:=⟨⟨_,underlying25,rfl⟩,by kernel_rfl⟩
theorem sc29:W1 prog 29:=⟨⟨_,underlying29,rfl⟩,by kernel_rfl⟩
theorem sc30:W1 prog 30:=⟨⟨_,underlying30,rfl⟩,by kernel_rfl⟩
theorem ag32:AT prog 32 129:=⟨⟨_,underlying32,rfl⟩,by kernel_rfl⟩
theorem sc42:W1 prog 42:=⟨⟨_,underlying42,rfl⟩,by kernel_rfl⟩
theorem ag44:AT prog 44 1:=⟨⟨_,underlying44,rfl⟩,by kernel_rfl⟩
theorem ag61:AT prog 61 33:=⟨⟨_,underlying61,rfl⟩,by kernel_rfl⟩
theorem sc71:W1 prog 71:=⟨⟨_,underlying71,rfl⟩,by kernel_rfl⟩
theorem sc73:W1 prog 73:=⟨⟨_,underlying73,rfl⟩,by kernel_rfl⟩
theorem sc76:W1 prog 76:=⟨⟨_,underlying76,rfl⟩,by kernel_rfl⟩
theorem ag80:AT prog 80 3:=⟨⟨_,underlying80,rfl⟩,by kernel_rfl⟩
theorem xl0:AT prog 124 97:=⟨⟨_,underlying124,rfl⟩,by kernel_rfl⟩
theorem sc128:W1 prog 128:=⟨⟨_,underlying128,rfl⟩,by kernel_rfl⟩
theorem ag159:AT prog 159 6:=⟨⟨_,underlying159,rfl⟩,by kernel_rfl⟩
theorem sc161:W1 prog 161:=⟨⟨_,underlying161,rfl⟩,by kernel_rfl⟩
theorem xl1:W1 prog 164:=⟨⟨_,underlying164,rfl⟩,by kernel_rfl⟩
theorem ag222:AT prog 222 34:=⟨⟨_,underlying222,rfl⟩,by kernel_rfl⟩
theorem xeo:AT prog 230 103:=⟨⟨_,underlying230,rfl⟩,by kernel_rfl⟩
theorem ag246:AT prog 246 4:=⟨⟨_,underlying246,rfl⟩,by kernel_rfl⟩
theorem sc252:W1 prog 252:=⟨⟨_,underlying252,rfl⟩,by kernel_rfl⟩
theorem sc257:W1 prog 257:=⟨⟨_,underlying257,rfl⟩,by kernel_rfl⟩
theorem sc316:W1 prog 316:=⟨⟨_,underlying316,rfl⟩,by kernel_rfl⟩
theorem ag340:AT prog 340 104:=⟨⟨_,underlying340,rfl⟩,by kernel_rfl⟩
theorem xl2:AT prog 343 5:=⟨⟨_,underlying343,rfl⟩,by kernel_rfl⟩
theorem sc352:W1 prog 352:=⟨⟨_,underlying352,rfl⟩,by kernel_rfl⟩
theorem xl3:AT prog 353 2:=⟨⟨_,underlying353,rfl⟩,by kernel_rfl⟩
theorem sl25:ST prog 25 5 1:=⟨underlying25,by kernel_rfl⟩
theorem sl26:ST prog 26 24 32:=⟨underlying26,by kernel_rfl⟩
theorem sl29:ST prog 29 23 32:=⟨underlying29,by kernel_rfl⟩
theorem sl42:ST prog 42 124 97:=⟨underlying42,by kernel_rfl⟩
theorem sl50:ST prog 50 25 1:=⟨underlying50,by kernel_rfl⟩
theorem sl55:ST prog 55 61 33:=⟨underlying55,by kernel_rfl⟩
theorem sl71:ST prog 71 3 1:=⟨underlying71,by kernel_rfl⟩
theorem sl73:ST prog 73 80 3:=⟨underlying73,by kernel_rfl⟩
theorem sl84:ST prog 84 159 6:=⟨underlying84,by kernel_rfl⟩
theorem sl128:ST prog 128 34 130:=⟨underlying128,by kernel_rfl⟩
theorem xcq:ST prog 220 222 34:=⟨underlying220,by kernel_rfl⟩
theorem sl286:ST prog 286 76 1:=⟨underlying286,by kernel_rfl⟩
theorem xo9:ST prog 316 340 104:=⟨underlying316,by kernel_rfl⟩
theorem sl354:ST prog 354 353 2:=⟨underlying354,by kernel_rfl⟩
theorem zr23:ZA prog 23 D32.z.c:=⟨.agg D32.z.c.toArray,by kernel_rfl,rfl⟩
theorem zr24:ZA prog 24 D32.z.c:=⟨.agg D32.z.c.toArray,by kernel_rfl,rfl⟩
theorem zr32:ZA prog 32 Nod.z.cells:=⟨.agg Nod.z.cells.toArray,by kernel_rfl,rfl⟩
theorem zr44:ZA prog 44 [.slice none 0 0]:=⟨.agg #[.slice none 0 0],by kernel_rfl,rfl⟩
theorem zr61:ZA prog 61 Par.z.cells:=⟨.agg Par.z.cells.toArray,by kernel_rfl,rfl⟩
theorem zr124:ZA prog 124 Brv.z.cells:=⟨.agg Brv.z.cells.toArray,by kernel_rfl,rfl⟩
theorem zr159:ZA prog 159 [.int .u8 0,.string ByteArray.empty,.slice none 0 0,.slice none 0 0,.slice none 0 0,iV 0]:=⟨.agg #[.int .u8 0,.string ByteArray.empty,.slice none 0 0,.slice none 0 0,.slice none 0 0,iV 0],by kernel_rfl,rfl⟩
theorem xf4:ZA prog 230 Nd.z.cells:=⟨.agg Nd.z.cells.toArray,by kernel_rfl,rfl⟩
theorem xl4:ZA prog 246 Plc.z.cells:=⟨.agg Plc.z.cells.toArray,by kernel_rfl,rfl⟩
theorem xi6:ZA prog 343 [.slice none 0 0,.bool false,iV 0,iV 0,.bool false]:=⟨.agg #[.slice none 0 0,.bool false,iV 0,iV 0,.bool false],by kernel_rfl,rfl⟩
theorem zr353:ZA prog 353 [iV 0,.pointer none]:=⟨.agg #[iV 0,.pointer none],by kernel_rfl,rfl⟩
theorem el3:ET prog 3 (iV 0) 1 8:=⟨by kernel_rfl,by first | rfl | exact D32.cl _ | exact rfl,by omega⟩
theorem el5:ET prog 5 (.int .u8 0) 1 1:=⟨by kernel_rfl,by first | rfl | exact D32.cl _ | exact rfl,by omega⟩
theorem el23:ET prog 23 (.agg D32.z.c.toArray) 32 32:=⟨by kernel_rfl,by first | rfl | exact D32.cl _ | exact rfl,by omega⟩
theorem el24:ET prog 24 (.agg D32.z.c.toArray) 32 32:=⟨by kernel_rfl,by first | rfl | exact D32.cl _ | exact rfl,by omega⟩
theorem el25:ET prog 25 (.slice none 0 0) 1 24:=⟨by kernel_rfl,by first | rfl | exact D32.cl _ | exact rfl,by omega⟩
theorem el34:ET prog 34 (.agg Prv.z.cells.toArray) 130 160:=⟨by kernel_rfl,by first | rfl | exact D32.cl _ | exact Prv.len _,by omega⟩
theorem el61:ET prog 61 (.agg Par.z.cells.toArray) 33 56:=⟨by kernel_rfl,by first | rfl | exact D32.cl _ | exact Par.len _,by omega⟩
theorem el76:ET prog 76 (.nilFunc) 1 8:=⟨by kernel_rfl,by first | rfl | exact D32.cl _ | exact rfl,by omega⟩
theorem xg0:ET prog 124 (.agg Brv.z.cells.toArray) 97 97:=⟨by kernel_rfl,by first | rfl | exact D32.cl _ | exact Brv.len _,by omega⟩
theorem el340:ET prog 340 (.agg Slo.z.cells.toArray) 104 176:=⟨by kernel_rfl,by first | rfl | exact D32.cl _ | exact Slo.len _,by omega⟩
section
variable {α β:Type}{f:α→List β}{z:Nat}
theorem xaw(hz:∀ x,(f x).length=z)(l:List α):(l.flatMap f).length=l.length*z:=by
 induction l with
 | nil=>simp
 | cons x l ih=>rw[List.flatMap_cons,List.length_append,ih,hz,List.length_cons,Nat.succ_mul,Nat.add_comm]
theorem xhl(l:List α)(i:Nat)(hi:i<l.length):l.flatMap f=(l.take i).flatMap f++(f l[i]++(l.drop (i+1)).flatMap f):=by
 conv=>lhs;rw[← List.take_append_drop i l]
 rw[List.flatMap_append,List.drop_eq_getElem_cons hi,List.flatMap_cons]
theorem xc5(hz:∀ x,(f x).length=z)(l:List α)(i:Nat)(hi:i≤l.length):((l.take i).flatMap f).length=i*z:=by
 rw[xaw hz,List.length_take,Nat.min_eq_left hi]
theorem xcb(hz:∀ x,(f x).length=z)(l:List α)(sp:List β)(i:Nat)(hi:i<l.length):((l.flatMap f++sp).drop (i*z)).take z=f l[i]:=by
 have h:=xr5 ((l.take i).flatMap f) (f l[i]) ((l.drop (i+1)).flatMap f++sp) z (hz _);rw[xc5 hz l i (by omega)] at h;rw[xhl l i hi,List.append_assoc,List.append_assoc];exact h
theorem xii(hz:∀ x,(f x).length=z)(l:List α)(sp:List β)(i j:Nat)(hi:i<l.length)(hj:j<z):(l.flatMap f++sp)[i*z+j]? = (f l[i])[j]? := by
 rw[← xcb hz l sp i hi,List.getElem?_take_of_lt hj,List.getElem?_drop]
theorem fm_sub(hz:∀ x,(f x).length=z)(l:List α)(sp:List β)(i k m:Nat)(hi:i<l.length)(hk:k+m≤z):((l.flatMap f++sp).drop (i*z+k)).take m=((f l[i]).drop k).take m:=by
 rw[← xcb hz l sp i hi,List.drop_take,List.drop_drop,List.take_take,Nat.min_eq_left (by omega)]
theorem xci(hz:∀ x,(f x).length=z)(l:List α)(sp:List β)(i:Nat)(y:α)(hi:i<l.length):splice (l.flatMap f++sp) (i*z) (f y)=(l.set i y).flatMap f++sp:=by
 have h:=xbl ((l.take i).flatMap f) (f l[i]) ((l.drop (i+1)).flatMap f++sp) (f y) (by rw[hz,hz]);rw[xc5 hz l i (by omega)] at h;have e1:l.flatMap f++sp=(l.take i).flatMap f++(f l[i]++((l.drop (i+1)).flatMap f++sp)):=by rw[xhl l i hi,List.append_assoc,List.append_assoc]
 have e2:(l.set i y).flatMap f++sp=(l.take i).flatMap f++(f y++((l.drop (i+1)).flatMap f++sp)):=by
  rw[List.set_eq_take_append_cons_drop,if_pos hi,List.flatMap_append,List.flatMap_cons,List.append_assoc,List.append_assoc]
 rw[e1,h,e2]
theorem xg1(hz:∀ x,(f x).length=z)(l:List α)(sp:List β)(i k:Nat)(vs:List β)(y:α)(hi:i<l.length)(hk:k+vs.length≤z)(hy:splice (f l[i]) k vs=f y):splice (l.flatMap f++sp) (i*z+k) vs=(l.set i y).flatMap f++sp:=by
 have hl:=xc5 hz l i (by omega);have e1:l.flatMap f++sp=(l.take i).flatMap f++(f l[i]++((l.drop (i+1)).flatMap f++sp)):=by rw[xhl l i hi,List.append_assoc,List.append_assoc]
 have e2:(l.set i y).flatMap f++sp=(l.take i).flatMap f++(f y++((l.drop (i+1)).flatMap f++sp)):=by
  rw[List.set_eq_take_append_cons_drop,if_pos hi,List.flatMap_append,List.flatMap_cons,List.append_assoc,List.append_assoc]
 rw[e1,e2,← hy];have hfl:(f l[i]).length=z:=hz _;unfold splice;rw[List.take_append,List.drop_append,hl];have t1:i*z+k - i*z=k:=by omega
 have t2:i*z+k+vs.length - i*z=k+vs.length:=by omega
 have d1:List.take (i*z+k) ((l.take i).flatMap f)=(l.take i).flatMap f:=List.take_of_length_le (by omega);have d2:List.drop (i*z+k+vs.length) ((l.take i).flatMap f) = []:=List.drop_of_length_le (by omega);rw[t1,t2,d1,d2,List.nil_append,List.take_append_of_le_length (by omega),List.drop_append_of_le_length (by omega)];simp only[qo]
theorem fm_set(hz:∀ x,(f x).length=z)(l:List α)(sp:List β)(i k:Nat)(v:β)(y:α)(hi:i<l.length)(hk:k<z)(hy:(f l[i]).set k v=f y):(l.flatMap f++sp).set (i*z+k) v=(l.set i y).flatMap f++sp:=by
 have hl:=xc5 hz l i (by omega);have e1:l.flatMap f++sp=(l.take i).flatMap f++(f l[i]++((l.drop (i+1)).flatMap f++sp)):=by rw[xhl l i hi,List.append_assoc,List.append_assoc]
 have e2:(l.set i y).flatMap f++sp=(l.take i).flatMap f++(f y++((l.drop (i+1)).flatMap f++sp)):=by
  rw[List.set_eq_take_append_cons_drop,if_pos hi,List.flatMap_append,List.flatMap_cons,List.append_assoc,List.append_assoc]
 have hfl:(f l[i]).length=z:=hz _;rw[e1,e2,← hy,List.set_append,if_neg (by omega),hl,List.set_append,if_pos (by omega)];congr 3;omega
end
structure En where
 nd:Nd
 count:Int
 val:LU
def En.cells(e:En):List Value:=(e.nd.slo e.count).cells
theorem En.len(e:En):e.cells.length=104:=Slo.len _
theorem En.cells_eq(e:En):e.cells=e.nd.cells++[.int .i64 e.count]:=Nd.slo_cells _ _
theorem En.g_count(e:En):e.cells[103]? = some (.int .i64 e.count):=Slo.g_count _
theorem En.g_nd(e:En):(e.cells.drop 0).take 103=e.nd.cells:=by
 rw[En.cells_eq,List.drop_zero,List.take_left' (Nd.len _)]
structure Sb where
 slots:List En
 free:List Nat
 room:Nat
 used:Nat
structure Sb.Ok (σ:Sb):Prop where
 r1:1≤σ.room
 r2:σ.room≤65536
 fit:σ.used+σ.free.length=σ.slots.length
 few:σ.slots.length≤σ.room
 fr:∀ n∈σ.free,1≤n∧n≤σ.slots.length
def rowS(σ:Sb):List Value:=σ.slots.flatMap En.cells
def rowF(σ:Sb):List Value:=σ.free.map fun n:Nat=>.int .i64 (n:Int)
def SbS(g:Nat)(vs vf:Sv):Nat→Prop:=fun k=>k=g∨vs.v.ownBlock=some k∨vf.v.ownBlock=some k
structure SbP (D:Nat→Prop)(w:World)(g:Nat)(σ:Sb)(vs vf:Sv):Prop where
 blk:Blk w g 318 [vs.v,vf.v,iV (σ.room:Int),iV (σ.used:Int)]
 slots:w.ownsRow 0 340 104 vs.v σ.slots.length (rowS σ)
 free:w.ownsRow 0 3 1 vf.v σ.free.length (rowF σ)
 ok:σ.Ok
 own:∀ k,SbS g vs vf k→D k
 lt:∀ k,D k→k<w.heap.size
 vals:∀ e∈σ.slots,Lft (SbS g vs vf) w e.nd.vs.A e.nd.vs.n e.nd.vs.c e.val∧∀ ad,e.nd.vs.A=some ad→D ad.block
theorem xbm{w w':World}{base e z n:Nat}{v:Value}{xs:List Value}(h:w.ownsRow base e z v n xs)(hk:∀ k,v.ownBlock=some k→w'.heap[k]? = w.heap[k]?):w'.ownsRow base e z v n xs:=by
 obtain⟨hl,h⟩:=h;rcases h with⟨rfl,rfl⟩ | ⟨g,cap,cur,rfl,hg,hh,hn,hm,hs,ht⟩
 ·exact⟨hl,.inl ⟨rfl,rfl⟩⟩
 ·exact⟨hl,.inr ⟨g,cap,cur,rfl,hg,by rw[hk g rfl];exact hh,hn,hm,hs,ht⟩⟩
theorem xgc{w:World}{base e z n:Nat}{v:Sv}{xs:List Value}(h:w.ownsRow base e z v.v n xs)(hn:0<n):∃ G sp,v=⟨aS G,n,v.c⟩∧v.v.ownBlock=some G∧Blk w G e (xs++sp)∧n≤v.c∧v.c≤maxLen∧(xs++sp).length=v.c*z:=by
 obtain⟨hl,h⟩:=h;rcases h with⟨h1,h2⟩ | ⟨g,cap,cur,h1,hg,hh,hn',hm,hs,ht⟩
 ·omega
 ·obtain⟨A,m,c⟩:=v
  unfold Sv.v at h1;simp only[Value.slice.injEq] at h1;obtain⟨rfl,rfl,rfl⟩:=h1;have e0:xs++cur.toList.drop (m*z)=cur.toList:=by rw[← ht,List.take_append_drop]
  refine⟨g,cur.toList.drop (m*z),rfl,rfl,?_,hn',hm,?_⟩
  ·unfold Blk;rw[e0];exact hh
  ·rw[e0];simpa using hs
section
variable {D:Nat→Prop}{w w':World}{g:Nat}{σ:Sb}{vs vf:Sv}
theorem SbP.D_g(h:SbP D w g σ vs vf):D g:=h.own g (.inl rfl)
theorem SbP.fr(h:SbP D w g σ vs vf){T:Nat→Prop}(hf:Fr T w w')(hT:∀ k,D k→¬ T k):SbP D w' g σ vs vf :=
 ⟨h.blk.fr hf (hT g h.D_g),xbm h.slots (fun k hk=>hf.block k (h.lt k (h.own k (.inr (.inl hk)))) (hT k (h.own k (.inr (.inl hk))))),
   xbm h.free (fun k hk=>hf.block k (h.lt k (h.own k (.inr (.inr hk)))) (hT k (h.own k (.inr (.inr hk))))),h.ok,h.own,fun k hk=>Nat.lt_of_lt_of_le (h.lt k hk) hf.size,
   fun e he=>by
  obtain⟨h1,h2⟩:=h.vals e he
  exact⟨⟨h1.len,h1.cap,h1.max,h1.rd.fr hf (fun ad e t=>hT _ (h2 ad e) t),h1.far⟩,h2⟩⟩
theorem SbP.below(h:SbP D w g σ vs vf)(hb:Bw w w'):SbP D w' g σ vs vf:=h.fr (T:=fun _=>False) (Fr.of_below hb) (fun _ _ f=>f)
theorem SbP.c2(h:SbP D w g σ vs vf):w.cell? ⟨g,2,none⟩=some (iV (σ.room:Int)):=by rw[h.blk.cell];rfl
theorem SbP.c3(h:SbP D w g σ vs vf):w.cell? ⟨g,3,none⟩=some (iV (σ.used:Int)):=by rw[h.blk.cell];rfl
theorem SbP.c0(h:SbP D w g σ vs vf):w.cell? ⟨g,0,none⟩=some vs.v:=by rw[h.blk.cell];rfl
theorem SbP.vfn(h:SbP D w g σ vs vf):vf.n=σ.free.length:=by
 obtain⟨A,c,e,_⟩:=xfq h.free;unfold Sv.v at e;simp only[Value.slice.injEq] at e;exact e.2.1
theorem xfw(h:SbP D w g σ vs vf):Calls prog 213 #[pG g] w fun e w'=>e=.returned (.bool false)∧w=w':=by
 have hc:=h.c2;have hr:((σ.room:Int)==0)=false:=by have:=h.ok.r1;simp;omega
 have HL:=Loc.start w;clear h;go_enter func213,ntmps213;go_upto_region 0 with fail;refine X1j ?_;go_upto_region 1 with fail;refine X1o ?_;refine X1p ?_;refine xac rfl _ (xaf xjq _ rfl _ rfl) ?_;refine X1q ?_;refine X6 ?_;refine X1s ?_;refine X1t ?_;go_wp2_with fail;go_ret;exact⟨rfl,rfl⟩
theorem sb_len(h:SbP D w g σ vs vf):Calls prog 156 #[pG g] w fun e w'=>e=.returned (iV (σ.used:Int))∧w=w':=by
 have hc:=h.c3;have HL:=Loc.start w;go_enter func156,ntmps156;go_upto_region 0 with fail;refine X1j ?_;go_upto_region 1 with fail;refine X1x ?_;intro K hK;(with_reducible refine(xfw h).mono ?_);rintro e w ⟨rfl,rfl⟩;refine X20 ?_;clear hK K;go_upto_region 3 with fail;refine X14 ?_;refine X21 ?_;refine X6 ?_;refine X22 ?_;refine X1a ?_;go_wp2_with fail;go_ret;exact⟨rfl,rfl⟩
theorem sb_room(h:SbP D w g σ vs vf):Calls prog 206 #[pG g] w fun e w'=>e=.returned (iV (σ.room:Int))∧w=w':=by
 have hc:=h.c2;have HL:=Loc.start w;go_enter func206,ntmps206;go_upto_region 0 with fail;refine X1j ?_;go_upto_region 1 with fail;refine X1x ?_;intro K hK;(with_reducible refine(xfw h).mono ?_);rintro e w ⟨rfl,rfl⟩;refine X20 ?_;clear hK K;go_upto_region 3 with fail;refine X14 ?_;refine xaa rfl _ (xaf xjq _ rfl _ rfl) ?_;refine X6 ?_;refine X22 ?_;refine X1a ?_;go_wp2_with fail;go_ret;exact⟨rfl,rfl⟩
theorem SbP.slot(h:SbP D w g σ vs vf)(i:Nat)(hi:i<σ.slots.length):∃ G sp,vs=⟨aS G,σ.slots.length,vs.c⟩∧D G∧SbS g vs vf G∧Blk w G 340 (rowS σ++sp)∧σ.slots.length≤vs.c∧vs.c≤maxLen:=by
 obtain⟨G,sp,e,ho,hb,h1,h2,h3⟩:=xgc h.slots (by omega);exact⟨G,sp,e,h.own G (.inr (.inl ho)),.inr (.inl ho),hb,h1,h2⟩
theorem xgr(i:Nat)(hi:i<σ.slots.length)(sp:List Value):(rowS σ++sp)[i*104+103]? = some (.int .i64 σ.slots[i].count):=by
 unfold rowS;rw[xii En.len _ _ i 103 hi (by omega),En.g_count]
theorem row_nd(i:Nat)(hi:i<σ.slots.length)(sp:List Value):((rowS σ++sp).drop (i*104)).take 103=σ.slots[i].nd.cells:=by
 unfold rowS;have h:=fm_sub En.len σ.slots sp i 0 103 hi (by omega);rw[Nat.add_zero] at h;rw[h,En.g_nd]
theorem xl5(h:SbP D w g σ vs vf)(n:Int)(i:Nat)(hn:n=(i:Int)+1)(hi:i<σ.slots.length)(hc:σ.slots[i].count≠0) :
  Calls prog 231 #[pG g,iV n] w fun e w'=>∃ G,vs.A=some ⟨G,0,none⟩∧e=.returned (.pointer (some ⟨G,i*104,none⟩))∧w=w':=by
 obtain⟨G,sp,he,hD,hS,hb,hcap,hmx⟩:=h.slot i hi;have hc0:=h.c0;have hr1:=h.ok.few;have hr2:=h.ok.r2;have hcell:w.cell? ⟨G,i*104+103,none⟩=some (.int .i64 σ.slots[i].count):=by rw[hb.cell,xgr i hi sp]
 have k1:decide (n<1)=false:=by simp;omega
 have k2:decide ((σ.slots.length:Int)<n)=false:=by simp;omega
 have k3:(σ.slots[i].count==0)=false:=by simpa using hc
 have HN:=hZ hn;have hni:Hid (n - 1=(i:Int)):=hZ (by omega);have HA:Hid (vs.A=some ⟨G,0,none⟩):=hZ (by rw[he]);generalize σ.slots[i].count=ct at *;rw[he] at hc0;have hlen:σ.slots.length≤65536:=by omega
 refine X23 ?_;intro C HL;clear he hb hn hr1 hr2;generalize σ.slots.length=m at *;go_enter func231,ntmps231;go_upto_region 0 with fail;refine X1j ?_;go_upto_region 1 with fail;refine X1x ?_;intro K hK;(with_reducible refine((C _).out h).mono ?_);rintro e w ⟨rfl,rfl⟩;refine X1y ?_;clear hK K;refine X24 ?_;refine X1s ?_;refine X1n ?_;refine X1m ?_;refine X1p ?_;refine xac rfl _ (xaf xfv _ rfl _ rfl) ?_;refine X25 ?_;refine X6 ?_;refine xac rfl _ (xb3 underlying316 _ rfl _ _ _ rfl) ?_;refine X6 ?_;refine X1s ?_;refine X1n ?_;refine X1p ?_;refine xac rfl _ (xaf xfv _ rfl _ rfl) ?_;refine X25 ?_;refine X26 ?_;refine xac rfl _ (xa2 _ _ rfl _ _ (i:Int) rfl rfl hni.out (by omega)) ?_;refine X6 ?_;refine xac rfl _ (xap xo9 _ _ rfl G _ _ i _ rfl rfl hi) ?_;refine X6 ?_
 refine xac rfl _ (xer xsl _ rfl _ _ rfl) ?_;refine X1q ?_;refine X2a ?_;go_upto_region 3 with fail;refine X14 ?_;refine xaa rfl _ (xaf xfv _ rfl _ rfl) ?_;refine X6 ?_;refine xaa rfl _ (xdr sc316 HL _ rfl _ rfl _ (by with_reducible assumption)) ?_;refine X15 ?_;refine xaa rfl _ (xa2 _ _ rfl _ _ (i:Int) rfl rfl hni.out (by omega)) ?_;refine X6 ?_;refine xaa rfl _ (xap xo9 _ _ rfl G _ _ i _ rfl rfl hi) ?_;refine X1a ?_;go_wp2_with fail;go_ret;exact⟨G,HA.out,rfl,rfl⟩
theorem sb_at_no(h:SbP D w g σ vs vf)(n:Int)(hn:n<1) :
  Calls prog 231 #[pG g,iV n] w fun e w'=>e=.returned (.pointer none)∧w=w':=by
 have k1:decide (n<1)=true:=by simp;omega
 refine X23 ?_;intro C HL;go_enter func231,ntmps231;go_upto_region 0 with fail;refine X1j ?_;go_upto_region 1 with fail;refine X1x ?_;intro K hK;(with_reducible refine((C _).out h).mono ?_);rintro e w ⟨rfl,rfl⟩;refine X1y ?_;clear hK K;refine X24 ?_;refine X1s ?_;refine X1l ?_;refine no_implicit_lambda% (X2d ?_);refine no_implicit_lambda% (X2e ?_);refine X1l ?_;refine no_implicit_lambda% (X2d ?_);refine no_implicit_lambda% (X2d ?_);refine no_implicit_lambda% (X2f ?_);go_upto_region 2 with fail;refine X1j ?_;go_wp2_with fail;go_ret;exact⟨rfl,rfl⟩
theorem xqt(h:SbP D w g σ vs vf)(n:Int)(i:Nat)(hn:n=(i:Int)+1)(hi:i<σ.slots.length)(hc:σ.slots[i].count≠0) :
  Calls prog 192 #[pG g,iV n] w (oB w (.tuple #[.agg σ.slots[i].nd.cells.toArray,iV 0])):=by
 obtain⟨G,sp,he,hD,hS,hb,hcap,hmx⟩:=h.slot i hi;have hgn:=row_nd i hi sp;have HA:vs.A=some ⟨G,0,none⟩:=by rw[he]
 have HH:=hZ (And.intro h (And.intro hn hc));have hO:Old w G:=h.lt G hD;clear h he hn hc;have HL:=Loc.start w;go_enter func192,ntmps192;go_upto_region 0 with fail;refine Xt ?_;refine X2g ?_;clear HL;intro g4 w HL;go_upto_region 1 with fail;refine Xt ?_;refine X2h ?_;clear HL;intro g6 w HL;refine X1z ?_;go_upto_region 2 with fail;refine X1x ?_;intro K hK;refine X2i ?_;rintro e w ⟨rfl,rfl⟩;refine X20 ?_;clear hK K;go_upto_region 4 with fail;refine X2j ?_;intro K hK;refine X2k ?_;refine X1w ?_;refine X2l ?_;rintro e w ⟨G',hG,rfl,rfl⟩;obtain rfl:G'=G:=by rw[HA] at hG;cases hG;rfl
 refine X2m ?_;clear hK K;go_upto_region 5 with fail;refine X2n ?_;go_upto_region 7 with fail;refine X14 ?_;refine xaa rfl _ (xer xsk _ rfl _ _ rfl) ?_;refine X6 ?_;refine xaa rfl _ (xc9 xeo HL _ rfl _ _ rfl _ _ _ hO hb hgn (Nd.len _)) ?_;refine X2o ?_;refine X2p ?_;clear HL;intro w HL;refine X10 ?_;go_wp2_with fail;refine Xc ?_;refine X2q ?_;exact⟨rfl,HL.below⟩
theorem xui(h:SbP D w g σ vs vf)(n:Int)(hn:n<1) :
  Calls prog 192 #[pG g,iV n] w (oB w (.tuple #[.agg Nd.z.cells.toArray,iV 7])):=by
 have HL:=Loc.start w;go_enter func192,ntmps192;go_upto_region 0 with fail;refine Xt ?_;refine X2g ?_;clear HL;intro g4 w HL;go_upto_region 1 with fail;refine Xt ?_;refine X2h ?_;clear HL;intro g6 w HL;refine X1z ?_;go_upto_region 2 with fail;refine X1x ?_;intro K hK;(with_reducible refine(xfw (h.below HL.below)).mono ?_);rintro e w ⟨rfl,rfl⟩;refine X20 ?_;clear hK K;go_upto_region 4 with fail;refine X2j ?_;intro K hK;refine X2k ?_;refine X1w ?_;(with_reducible refine(sb_at_no (h.below HL.below) n hn).mono ?_);rintro e w ⟨rfl,rfl⟩;refine X2m ?_;clear hK K;go_upto_region 5 with fail;refine X2n ?_;go_upto_region 6 with fail;refine Xt ?_;refine X2r ?_;refine X2o ?_;refine X2p ?_;clear HL;intro w HL;refine X10 ?_;go_wp2_with fail;refine Xc ?_;refine X2q ?_;exact⟨rfl,HL.below⟩
end
theorem Blk.ne{w:World}{g g':Nat}{t t':TypeId}{cs cs':List Value}(h:Blk w g t cs)(h':Blk w g' t' cs')(hne:t≠t'):g≠g':=by
 rintro rfl;unfold Blk at h h';rw[h] at h';injection h' with h';injection h' with _ ht;exact hne ht
theorem Loc.adopt{w0 w:World}{L:BL}(H:Loc w0 (Old w0) L w)(S:Nat→Prop)(L2:BL)(h2:∀ x∈L2,S x.1∧Blk w0 x.1 x.2.1 x.2.2)(n2:L2.Pairwise (fun x y=>x.1≠y.1)) :
  Loc w0 (fun k=>Old w0 k∧¬ S k) (L++L2) w:=by
 refine⟨⟨H.fr.os,H.fr.tape,H.fr.output,H.fr.size,fun k hk hn=>H.heap hk⟩,?_,?_,fun k hk=>hk.1⟩
 ·intro x hx
  rcases List.mem_append.1 hx with hx | hx
  ·exact⟨fun hd=>(H.own x hx).1 hd.1,(H.own x hx).2⟩
  ·exact⟨fun hd=>hd.2 (h2 x hx).1,H.farO (h2 x hx).2⟩
 ·refine List.pairwise_append.2 ⟨H.nd,n2,fun x hx y hy e=>?_⟩
  have h3:=(H.own x hx).1;rw[e] at h3;exact h3 (h2 y hy).2.lt
theorem Loc.frS{w0 w:World}{S:Nat→Prop}{L:BL}(H:Loc w0 (fun k=>Old w0 k∧¬ S k) L w):Fr S w0 w :=
 ⟨H.fr.os,H.fr.tape,H.fr.output,H.fr.size,fun k hk hn=>H.heap ⟨hk,hn⟩⟩
theorem xfx{w:World}{e z n G:Nat}{v:Sv}{xs sp:List Value}(hv:v=⟨aS G,n,v.c⟩)(hb:Blk w G e (xs++sp))(hl:xs.length=n*z)(hn:n≤v.c)(hm:v.c≤maxLen)(hs:(xs++sp).length=v.c*z):w.ownsRow 0 e z v.v n xs:=by
 refine⟨hl,.inr ⟨G,v.c,(xs++sp).toArray,by rw[hv];rfl,Nat.zero_le _,hb,hn,hm,by simpa using hs,?_⟩⟩;simp[List.take_left' hl]
theorem xe2(σ:Sb):(rowS σ).length=σ.slots.length*104:=xaw En.len _
section
variable {D:Nat→Prop}{w w':World}{g:Nat}{σ:Sb}{vs vf:Sv}
theorem SbP.slotC(h:SbP D w g σ vs vf)(i:Nat)(hi:i<σ.slots.length):∃ G sp,vs=⟨aS G,σ.slots.length,vs.c⟩∧D G∧SbS g vs vf G∧Blk w G 340 (rowS σ++sp)∧σ.slots.length≤vs.c∧vs.c≤maxLen∧(rowS σ++sp).length=vs.c*104:=by
 obtain⟨G,sp,e,ho,hb,h1,h2,h3⟩:=xgc h.slots (by omega);exact⟨G,sp,e,h.own G (.inr (.inl ho)),.inr (.inl ho),hb,h1,h2,h3⟩
def ValOk(D:Nat→Prop)(w:World)(g:Nat)(vs vf:Sv)(x:Sv)(l:LU):Prop:=Lft (SbS g vs vf) w x.A x.n x.c l∧∀ ad,x.A=some ad→D ad.block
theorem ValOk.fr{D:Nat→Prop}{x:Sv}{l:LU}(h:ValOk D w g vs vf x l){T:Nat→Prop}(hf:Fr T w w')(hT:∀ k,T k→SbS g vs vf k):ValOk D w' g vs vf x l:=⟨h.1.fr hf hT,h.2⟩
def Sb.put(σ:Sb)(i:Nat)(e:En):Sb:={ σ with slots:=σ.slots.set i e }
theorem Sb.put_ok(h:σ.Ok)(i:Nat)(e:En):(σ.put i e).Ok:=⟨h.r1,h.r2,by simp[Sb.put,h.fit],by simpa[Sb.put] using h.few,fun n hn=>by simpa[Sb.put] using h.fr n hn⟩
theorem SbP.turned(h:SbP D w g σ vs vf)(i:Nat)(hi:i<σ.slots.length)(e:En)(G:Nat)(sp:List Value)(hv:vs=⟨aS G,σ.slots.length,vs.c⟩)(hb:Blk w' G 340 (rowS (σ.put i e)++sp))
  (hl:(rowS σ++sp).length=vs.c*104) (hc:σ.slots.length≤vs.c) (hm:vs.c≤maxLen) (hf:Fr (· = G) w w') (hg:G≠g) (hGf:vf.v.ownBlock≠some G) (hS:SbS g vs vf G) (he:ValOk D w' g vs vf e.nd.vs e.val):SbP D w' g (σ.put i e) vs vf:=by
 have hlen:(rowS (σ.put i e)).length=(rowS σ).length:=by rw[xe2,xe2];simp[Sb.put]
 have hT:∀ k,k=G→SbS g vs vf k:=fun k hk=>by rw[hk];exact hS
 refine⟨h.blk.fr hf (fun e=>hg e.symm),?_,xbm h.free (fun k hk=>hf.block k (h.lt k (h.own k (.inr (.inr hk)))) (fun e=>hGf (e▸hk))),Sb.put_ok h.ok i e,h.own,fun k hk=>Nat.lt_of_lt_of_le (h.lt k hk) hf.size,?_⟩
 ·have hn:(σ.put i e).slots.length=σ.slots.length:=by simp[Sb.put]
  rw[hn];exact xfx hv hb (by rw[xe2,hn]) hc hm (by rw[List.length_append,hlen,← List.length_append,hl])
 ·intro x hx
  rcases List.mem_or_eq_of_mem_set hx with hx | rfl
  ·have h1:=h.vals x hx
   exact⟨h1.1.fr hf hT,h1.2⟩
  ·exact he
theorem SbP.apart(h:SbP D w g σ vs vf)(G:Nat)(cs:List Value)(hb:Blk w G 340 cs):G≠g∧vf.v.ownBlock≠some G:=by
 refine⟨hb.ne h.blk (by decide),fun e=>?_⟩;obtain⟨h1,h2⟩:=h.free;rcases h2 with⟨h3,h4⟩ | ⟨k,cap,cur,h3,hk,hh,hn,hm,hs,ht⟩
 ·rw[h3] at e;cases e
 ·rw[h3] at e
  simp[Value.ownBlock] at e;subst e;have hb2:Blk w k 3 cur.toList:=by simpa[Blk] using hh
  exact hb.ne hb2 (by decide) rfl
theorem En.s_nd(e:En)(x:Nd)(val:LU):splice e.cells 0 x.cells=(⟨x,e.count,val⟩:En).cells:=by
 have h:=xbl [] e.nd.cells [.int .i64 e.count] x.cells (by rw[Nd.len,Nd.len]);simp only[qn,qs] at h;rw[En.cells_eq,En.cells_eq,h]
theorem En.s_count(e:En)(c:Int):e.cells.set 103 (iV c)=(⟨e.nd,c,e.val⟩:En).cells:=Slo.s_count _ _
theorem sb_set(h:SbP D w g σ vs vf)(n:Int)(i:Nat)(hn:n=(i:Int)+1)(hi:i<σ.slots.length)(hc:σ.slots[i].count≠0)(x:Nd)(val:LU)(hx:ValOk D w g vs vf x.vs val) :
  Calls prog 232 #[pG g,iV n,.agg x.cells.toArray] w fun e w'=>e=.returned (iV 0)∧SbP D w' g (σ.put i ⟨x,σ.slots[i].count,val⟩) vs vf∧Fr (SbS g vs vf) w w':=by
 obtain⟨G,sp,he,hD,hS,hb,hcap,hmx,hlen⟩:=h.slotC i hi;have HA:vs.A=some ⟨G,0,none⟩:=by rw[he]
 have hspl:splice (rowS σ++sp) (i*104+0) x.cells=rowS (σ.put i ⟨x,σ.slots[i].count,val⟩)++sp:=by
  unfold rowS Sb.put;exact xg1 En.len σ.slots sp i 0 x.cells _ hi (by rw[Nd.len];omega) (En.s_nd _ _ _)
 have hfit:i*104+0+103≤(rowS σ++sp).length:=by rw[hlen];omega
 have HH:=hZ (And.intro h (And.intro hn hc));have HE:=hZ he;have HSP:=hZ hspl;have hap:=h.apart G _ hb;have hlen':=hZ hlen;clear h he hn hc hspl hlen;have HL:=Loc.start w;go_enter func232,ntmps232;go_upto_region 0 with fail;refine X2s ?_;clear HL;intro g5 w HL;refine X1a ?_;go_upto_region 1 with fail;refine X1x ?_;intro K hK;refine X2i ?_;rintro e w ⟨rfl,rfl⟩;refine X20 ?_;clear hK K;go_upto_region 3 with fail;refine X2j ?_;intro K hK;refine X2k ?_;refine X1w ?_;refine X2l ?_;rintro e w ⟨G',hG,rfl,rfl⟩;obtain rfl:G=G':=by rw[HA] at hG;cases hG;rfl
 refine X2m ?_;clear hK K;go_upto_region 4 with fail;refine X2n ?_;replace HL:=HL.adopt (· = G) [(G,340,rowS σ++sp)] (by intro y hy;simp at hy;subst hy;exact⟨rfl,hb⟩) (by simp);simp only[qm,qn] at HL;go_upto_region 6 with fail;refine X12 ?_;refine X2r ?_;refine X16 ?_;refine xaa rfl _ (xer xsk _ rfl _ _ rfl) ?_;refine X6 ?_;refine xff xeo rfl _ _ rfl HL 1 G _ 340 _ _ _ rfl rfl rfl (Nd.len _) hfit (Nd.one _) HSP.out ?_;refine X2t ?_;clear HL;intro w HL;go_upto_region 7 with fail;refine X1j ?_;go_wp2_with fail;go_ret;have hf:Fr (· = G) _ _:=HL.frS;refine⟨rfl,HH.out.1.turned i hi _ G sp HE.out (HL.blk (.tail _ (.head _))) hlen'.out hcap hmx hf hap.1 hap.2 hS (hx.fr hf (fun k hk=>by rw[hk];exact hS)),?_⟩;exact⟨hf.os,hf.tape,hf.output,hf.size,fun k hk hn=>hf.block k hk (fun e=>hn (by rw[e];exact hS))⟩
theorem xnh(h:SbP D w g σ vs vf)(i:Nat)(hi:i<σ.slots.length):ValOk D w g vs vf σ.slots[i].nd.vs σ.slots[i].val:=h.vals _ (List.getElem_mem hi)
theorem xni(i:Nat)(hi:i<σ.slots.length)(sp:List Value)(c:Int):(rowS σ++sp).set (i*104+103) (iV c)=rowS (σ.put i ⟨σ.slots[i].nd,c,σ.slots[i].val⟩)++sp:=by
 unfold rowS Sb.put;exact fm_set En.len σ.slots sp i 103 _ _ hi (by omega) (En.s_count _ _)
theorem sb_hold(h:SbP D w g σ vs vf)(n:Int)(i:Nat)(hn:n=(i:Int)+1)(hi:i<σ.slots.length)(hc:0<σ.slots[i].count)(hmax:σ.slots[i].count<1073741824) :
  Calls prog 188 #[pG g,iV n] w fun e w'=>e=.returned (iV 0)∧SbP D w' g (σ.put i ⟨σ.slots[i].nd,σ.slots[i].count+1,σ.slots[i].val⟩) vs vf∧Fr (SbS g vs vf) w w':=by
 obtain⟨G,sp,he,hD,hS,hb,hcap,hmx,hlen⟩:=h.slotC i hi;have HA:vs.A=some ⟨G,0,none⟩:=by rw[he]
 have hfit:i*104+103<(rowS σ++sp).length:=by rw[hlen];omega
 have HG:=hZ (xgr i hi sp);have HSP:=hZ (xni i hi sp (σ.slots[i].count+1));refine X2u ?_;intro HH;have HV:=hZ (xnh h i hi);have HE:=hZ he;have hap:=h.apart G _ hb;have hlen':=hZ hlen;have k1:(σ.slots[i].count==1073741824)=false:=by simp;omega
 have HC:=hZ (rfl:σ.slots[i].count+1=σ.slots[i].count+1);clear h he hn hlen;have HL:=Loc.start w;go_enter func188,ntmps188;go_upto_region 0 with fail;refine X1j ?_;go_upto_region 1 with fail;refine X1x ?_;intro K hK;refine X2i ?_;rintro e w ⟨rfl,rfl⟩;refine X20 ?_;clear hK K;go_upto_region 3 with fail;refine X2j ?_;intro K hK;refine X2k ?_;refine X1w ?_;refine X2l ?_;rintro e w ⟨G',hG,rfl,rfl⟩;obtain rfl:G=G':=by rw[HA] at hG;cases hG;rfl
 refine X2m ?_;clear hK K;go_upto_region 4 with fail;refine X2n ?_;replace HL:=HL.adopt (· = G) [(G,340,rowS σ++sp)] (by intro y hy;simp at hy;subst hy;exact⟨rfl,hb⟩) (by simp);simp only[qn] at HL;go_upto_region 6 with fail;refine X14 ?_;refine X2v ?_;refine X2w ?_;refine X28 ?_;go_upto_region 8 with fail;refine X14 ?_;refine X2v ?_;refine X2w ?_;refine X6 ?_;refine xaa rfl _ (xa6 _ _ rfl _ _ _ rfl rfl HC.out (by omega)) ?_;refine X16 ?_;refine X2v ?_;refine X2x ?_;refine X2t ?_;clear HL;intro w HL;go_upto_region 9 with fail;refine X1j ?_;go_wp2_with fail;go_ret;have hf:Fr (· = G) _ _:=HL.frS;refine⟨rfl,HH.out.1.turned i hi _ G sp HE.out (HL.blk (.head _)) hlen'.out hcap hmx hf hap.1 hap.2 hS (HV.out.fr hf (fun k hk=>by rw[hk];exact hS)),?_⟩
 exact⟨hf.os,hf.tape,hf.output,hf.size,fun k hk hn=>hf.block k hk (fun e=>hn (by rw[e];exact hS))⟩
theorem xhm(h:SbP D w g σ vs vf)(n:Int)(i:Nat)(hn:n=(i:Int)+1)(hi:i<σ.slots.length)(hc:1<σ.slots[i].count)(hmax:σ.slots[i].count<1099511627776) :
  Calls prog 190 #[pG g,iV n] w fun e w'=>e=.returned (.tuple #[.bool false,iV 0])∧SbP D w' g (σ.put i ⟨σ.slots[i].nd,σ.slots[i].count - 1,σ.slots[i].val⟩) vs vf∧Fr (SbS g vs vf) w w':=by
 obtain⟨G,sp,he,hD,hS,hb,hcap,hmx,hlen⟩:=h.slotC i hi;have HA:vs.A=some ⟨G,0,none⟩:=by rw[he]
 have hfit:i*104+103<(rowS σ++sp).length:=by rw[hlen];omega
 have HG:=hZ (xgr i hi sp);have HSP:=hZ (xni i hi sp (σ.slots[i].count - 1))
 have HG2:Hid ((rowS (σ.put i ⟨σ.slots[i].nd,σ.slots[i].count - 1,σ.slots[i].val⟩)++sp)[i*104+103]? = some (iV (σ.slots[i].count - 1))):=by
  show _=_;rw[← HSP.out,List.getElem?_set_self hfit]
 refine X2u ?_;intro HH;have HV:=hZ (xnh h i hi);have HE:=hZ he;have hap:=h.apart G _ hb;have hlen':=hZ hlen;have k1:decide (0<σ.slots[i].count - 1)=true:=by simp;omega
 have HC:=hZ (rfl:σ.slots[i].count - 1=σ.slots[i].count - 1);clear h he hn hlen;have HL:=Loc.start w;go_enter func190,ntmps190;go_upto_region 0 with fail;refine X2y ?_;go_upto_region 1 with fail;refine X1x ?_;intro K hK;refine X2i ?_;rintro e w ⟨rfl,rfl⟩;refine X20 ?_;clear hK K;go_upto_region 3 with fail;refine X2j ?_;intro K hK;refine X2k ?_;refine X1w ?_;refine X2l ?_;rintro e w ⟨G',hG,rfl,rfl⟩;obtain rfl:G=G':=by rw[HA] at hG;cases hG;rfl
 refine X2m ?_;clear hK K;go_upto_region 4 with fail;refine X2n ?_;replace HL:=HL.adopt (· = G) [(G,340,rowS σ++sp)] (by intro y hy;simp at hy;subst hy;exact⟨rfl,hb⟩) (by simp);simp only[qn] at HL;go_upto_region 6 with fail;refine X14 ?_;refine X2v ?_;refine X2w ?_;refine X6 ?_;refine xaa rfl _ (xa2 _ _ rfl _ _ _ rfl rfl HC.out (by omega)) ?_;refine X16 ?_;refine X2v ?_;refine X2x ?_;refine X2t ?_;clear HL;intro w HL;go_upto_region 7 with fail;refine X14 ?_;refine X2z ?_;refine X28 ?_;go_upto_region 8 with fail;refine X2y ?_;go_wp2_with fail;go_ret2;have hf:Fr (· = G) _ _:=HL.frS;refine⟨rfl,HH.out.1.turned i hi _ G sp HE.out (HL.blk (.head _)) hlen'.out hcap hmx hf hap.1 hap.2 hS (HV.out.fr hf (fun k hk=>by rw[hk];exact hS)),?_⟩
 exact⟨hf.os,hf.tape,hf.output,hf.size,fun k hk hn=>hf.block k hk (fun e=>hn (by rw[e];exact hS))⟩
end
structure Stp (D:Nat→Prop)(w:World)(D':Nat→Prop)(w':World):Prop where
 new:∀ k,D' k→D k∨w.heap.size≤k
 old:∀ k,D k→D' k
 fr:Fr D w w'
theorem Stp.refl(D:Nat→Prop)(w:World):Stp D w D w:=⟨fun k h=>.inl h,fun k h=>h,Fr.refl _ _⟩
theorem Stp.of_below{D:Nat→Prop}{w w':World}(h:Bw w w'):Stp D w D w':=⟨fun k h=>.inl h,fun k h=>h,Fr.of_below h⟩
theorem Stp.of_fr{D S:Nat→Prop}{w w':World}(h:Fr S w w')(hS:∀ k,S k→D k):Stp D w D w' :=
 ⟨fun k h=>.inl h,fun k h=>h,⟨h.os,h.tape,h.output,h.size,fun k hk hn=>h.block k hk (fun s=>hn (hS k s))⟩⟩
theorem Stp.trans{D D1 D2:Nat→Prop}{w w1 w2:World}(h:Stp D w D1 w1)(k:Stp D1 w1 D2 w2):Stp D w D2 w2 :=
 ⟨fun b hb=>by
  rcases k.new b hb with h1 | h1
  ·exact h.new b h1
  ·exact .inr (Nat.le_trans h.fr.size h1),fun b hb=>k.old b (h.old b hb),
   ⟨k.fr.os.trans h.fr.os,k.fr.tape.trans h.fr.tape,k.fr.output.trans h.fr.output,Nat.le_trans h.fr.size k.fr.size,fun b hb hn=>(k.fr.block b (Nat.lt_of_lt_of_le hb h.fr.size) (fun hd=>by
  rcases h.new b hd with h1 | h1
  ·exact hn h1
  ·omega)).trans (h.fr.block b hb hn)⟩⟩
section
variable {D:Nat→Prop}{w w':World}{g:Nat}{σ σ':Sb}{vs vf vs' vf':Sv}
theorem SbP.again(h:SbP D w g σ vs vf)(hf:Fr (SbS g vs vf) w w')(hS:∀ k,SbS g vs' vf' k→SbS g vs vf k∨w.heap.size≤k)(hlt:∀ k,SbS g vs' vf' k→k<w'.heap.size)
  (blk:Blk w' g 318 [vs'.v,vf'.v,iV (σ'.room:Int),iV (σ'.used:Int)]) (slots:w'.ownsRow 0 340 104 vs'.v σ'.slots.length (rowS σ')) (free:w'.ownsRow 0 3 1 vf'.v σ'.free.length (rowF σ')) (ok:σ'.Ok)
  (hv:∀ e∈σ'.slots,e∈σ.slots∨(Lft (SbS g vs' vf') w' e.nd.vs.A e.nd.vs.n e.nd.vs.c e.val∧∀ ad,e.nd.vs.A=some ad→D ad.block)) :
  SbP (fun k=>D k∨SbS g vs' vf' k) w' g σ' vs' vf'∧Stp D w (fun k=>D k∨SbS g vs' vf' k) w':=by
 refine⟨⟨blk,slots,free,ok,fun k hk=>.inr hk,?_,?_⟩,?_,fun k hk=>.inl hk,?_⟩
 ·intro k hk
  rcases hk with hk | hk
  ·exact Nat.lt_of_lt_of_le (h.lt k hk) hf.size
  ·exact hlt k hk
 ·intro e he
  rcases hv e he with h1 | ⟨h1,h2⟩
  ·obtain⟨h2,h3⟩:=h.vals e h1
   refine⟨⟨h2.len,h2.cap,h2.max,h2.rd.fr hf (fun ad e t=>h2.far ad e t),?_⟩,fun ad e=>.inl (h3 ad e)⟩;intro ad e hk;rcases hS _ hk with h4 | h4
   ·exact h2.far ad e h4
   ·have:=h.lt _ (h3 ad e);omega
  ·exact⟨h1,fun ad e=>.inl (h2 ad e)⟩
 ·intro k hk
  rcases hk with hk | hk
  ·exact .inl hk
  ·rcases hS k hk with h1 | h1
   ·exact .inl (h.own k h1)
   ·exact .inr h1
 ·exact⟨hf.os,hf.tape,hf.output,hf.size,fun k hk hn=>hf.block k hk (fun s=>hn (h.own k s))⟩
def Sb.letGo(σ:Sb)(i:Nat):Sb:=⟨σ.slots.set i ⟨Nd.z,0,[]⟩,σ.free++[i+1],σ.room,σ.used - 1⟩
theorem Sb.letGo_ok(h:σ.Ok)(i:Nat)(hi:i<σ.slots.length)(hu:1≤σ.used):(σ.letGo i).Ok :=
 ⟨h.r1,h.r2,by have:=h.fit;simp[Sb.letGo];omega,by simpa[Sb.letGo] using h.few,fun n hn=>by
  simp only[Sb.letGo,List.mem_append,List.mem_singleton] at hn;simp only[Sb.letGo,List.length_set];rcases hn with hn | rfl
  ·exact h.fr n hn
  ·omega⟩
theorem slo_z:Slo.z.cells=(⟨Nd.z,0,[]⟩:En).cells:=rfl
theorem row_go(i:Nat)(hi:i<σ.slots.length)(e:En)(sp:List Value):splice (rowS (σ.put i e)++sp) (i*104) Slo.z.cells=rowS (σ.letGo i)++sp:=by
 unfold rowS Sb.put Sb.letGo;rw[slo_z,xci En.len _ sp i _ (by simpa using hi),List.set_set]
theorem xqu{k:Nat}(h:SbP D w g σ vs vf)(hk:vf.v.ownBlock=some k):k≠g:=by
 obtain⟨h1,h2⟩:=h.free;rcases h2 with⟨h3,h4⟩ | ⟨k',cap,cur,h3,hk',hh,hn,hm,hs,ht⟩
 ·rw[h3] at hk;cases hk
 ·rw[h3] at hk
  simp[Value.ownBlock] at hk;subst hk;have hb2:Blk w k' 3 cur.toList:=by simpa[Blk] using hh
  exact hb2.ne h.blk (by decide)
theorem xqv(h:SbP D w g σ vs vf)(n:Int)(i:Nat)(hn:n=(i:Int)+1)(hi:i<σ.slots.length)(hc:σ.slots[i].count=1)(hu:1≤σ.used) :
  Calls prog 190 #[pG g,iV n] w fun e w'=>∃ D' vf',e=.returned (.tuple #[.bool true,iV 0])∧SbP D' w' g (σ.letGo i) vs vf'∧Stp D w D' w'∧Fr (SbS g vs vf) w w':=by
 obtain⟨G,sp,he,hD,hS,hb,hcap,hmx,hlen⟩:=h.slotC i hi;have HA:vs.A=some ⟨G,0,none⟩:=by rw[he]
 have hfit:i*104+103<(rowS σ++sp).length:=by rw[hlen];omega
 have HG:=hZ (xgr i hi sp);rw[hc] at HG;have HSP:=hZ (xni i hi sp 0);have hlen2:(rowS (σ.put i ⟨σ.slots[i].nd,0,σ.slots[i].val⟩)++sp).length=(rowS σ++sp).length:=by rw[← HSP.out,List.length_set]
 have HG2:Hid ((rowS (σ.put i ⟨σ.slots[i].nd,0,σ.slots[i].val⟩)++sp)[i*104+103]? = some (iV 0)):=by
  show _=_;rw[← HSP.out,List.getElem?_set_self hfit]
 have HGO:=hZ (row_go i hi ⟨σ.slots[i].nd,0,σ.slots[i].val⟩ sp);have hfit2:i*104+104≤(rowS (σ.put i ⟨σ.slots[i].nd,0,σ.slots[i].val⟩)++sp).length:=by rw[hlen2];omega
 refine X2u ?_;intro HH;have HE:=hZ he;have hap:=h.apart G _ hb;have hlen':=hZ hlen;have hub:=h.ok.fit;have hfew:=h.ok.few;have hr2:=h.ok.r2;have hused:(σ.used:Int) - 1=((σ.used - 1:Nat):Int):=by omega
 have HU:=hZ hused;have hU2:σ.used≤65536:=by omega
 have hF2:σ.free.length≤65536:=by omega
 have hbg:=h.blk;have hifew:i+1≤65536:=by omega
 have HN:n=((i+1:Nat):Int):=by omega
 have hg0:=hZ h.D_g;clear h he hn hlen hlen2 hub hfew hr2 hc hused;subst HN;obtain⟨w0,rfl,HL⟩:=lS w;go_enter func190,ntmps190;go_upto_region 0 with fail;refine X2y ?_;go_upto_region 1 with fail;refine X1x ?_;intro K hK;refine X2i ?_;rintro e w ⟨rfl,rfl⟩;refine X20 ?_;clear hK K;go_upto_region 3 with fail;refine X2j ?_;intro K hK;refine X2k ?_;refine X1w ?_;(with_reducible refine(xl5 (HH.out.1.below HL.below) _ i HH.out.2.1 hi HH.out.2.2).mono ?_);rintro e w ⟨G',hG,rfl,rfl⟩;obtain rfl:G=G':=by rw[HA] at hG;cases hG;rfl
 refine X2m ?_;clear hK K;go_upto_region 4 with fail;refine X2n ?_;replace HL:=HL.adopt (fun k=>k=G∨k=g) [(G,340,rowS σ++sp),(g,318,[vs.v,vf.v,iV (σ.room:Int),iV (σ.used:Int)])] (by intro y hy;simp at hy;rcases hy with rfl | rfl;exact⟨.inl rfl,hb⟩;exact⟨.inr rfl,hbg⟩) (by simp;exact hap.1);simp only[qn] at HL;go_upto_region 6 with fail;refine X14 ?_;refine X2v ?_;refine X2w ?_;refine X6 ?_;refine xaa rfl _ (xa2 _ _ rfl _ _ 0 rfl rfl rfl (by omega)) ?_;refine X16 ?_;refine X2v ?_;refine X2x ?_;refine X2t ?_;clear HL;intro w HL;go_upto_region 7 with fail;refine X14 ?_;refine X2z ?_;refine X28 ?_;go_upto_region 9 with fail;refine X12 ?_;refine xaa rfl _ (xc2 _ rfl Slo.z.cells.toArray (by kernel_rfl)) ?_;refine X16 ?_
 refine xff ag340 rfl _ _ rfl HL 0 G _ 340 _ _ _ rfl rfl rfl (Slo.len _) hfit2 (Slo.one _) HGO.out ?_;refine X2t ?_;clear HL;intro w HL
 have hvg:∀ k,vf.v.ownBlock=some k→Old w0 k∧¬ (k=G∨k=g):=fun k hk=>⟨HH.out.1.lt k (HH.out.1.own k (.inr (.inr hk))),by
  rintro(e | e)
  ·exact hap.2 (e▸hk)
  ·exact xqu HH.out.1 hk e⟩
 go_upto_region 10 with fail;refine X30 ?_;refine X31 ?_;refine X32 ?_;refine X15 ?_;refine xd9 sl71 el3 rfl _ rfl HL _ rfl rfl ?_;clear HL;intro g35 w HL;(try simp only[Act.eval,qa,qb,qc,qd,qe] at HL);refine X6 ?_;refine xt7 sl71 el3 rfl _ _ rfl _ 3 _ HL vf _ _ rfl HH.out.1.free hvg 1 1 rfl rfl (by simp[Value.oneCell']) (by omega) (by omega) (by omega) ?_;clear HL;intro vf' w hrow hfr hvf' HL;obtain⟨w1,rfl⟩:=eW w;refine Xu ?_;refine X13 ?_;refine X31 ?_;refine X6 ?_;refine xa3 sc71 rfl _ _ rfl HL 1 _ _ _ _ _ _ rfl rfl rfl rfl (by simp) (rfl) ?_;refine X34 ?_;clear HL;intro w HL;go_upto_region 11 with fail;refine X14 ?_;refine X21 ?_;refine X35 ?_;refine X6 ?_;refine xaa rfl _ (xa2 _ _ rfl _ _ _ rfl rfl HU.out (by omega)) ?_;refine X16 ?_;refine X21 ?_;refine X36 ?_;refine X34 ?_;clear HL;intro w HL
 go_upto_region 12 with fail;refine X2y ?_;go_wp2_with fail;go_ret2;have hG1:=HL.blk (.head _);have hg1:=HL.blk (.tail _ (.head _))
 have hS0:∀ k,(k=G∨k=g)∨vf.v.ownBlock=some k→SbS g vs vf k:=by
  rintro k ((rfl | rfl) | e)
  ·exact hS
  ·exact .inl rfl
  ·exact .inr (.inr e)
 have hfin:Fr (SbS g vs vf) w0 w:=by
  refine⟨HL.fr.os.trans hfr.os,HL.fr.tape.trans hfr.tape,HL.fr.output.trans hfr.output,Nat.le_trans hfr.size HL.fr.size,fun k hk hn=>?_⟩
  have h1:w1.heap[k]? = w0.heap[k]? := hfr.block k hk (by
   rintro(e | e)
   ·exact e ⟨hk,fun e=>hn (hS0 k (.inl e))⟩
   ·exact hn (hS0 k (.inr e)))
  rw[← h1];refine HL.heap ⟨Nat.lt_of_lt_of_le hk hfr.size,?_⟩;intro x hx e;apply hn;apply hS0;simp at hx;rcases hx with rfl | rfl
  ·exact .inl (.inl e.symm)
  ·exact .inl (.inr e.symm)
 have hvo:∀ k,vs.v.ownBlock=some k→k=G:=by
  intro k hk;rw[HE.out] at hk;simp[Sv.v,Value.ownBlock] at hk;exact hk.symm
 have hag:=HH.out.1.again (σ':=σ.letGo i) (vs':=vs) (vf':=vf') hfin (by
  rintro k (rfl | e | e)
  ·exact .inl (.inl rfl)
  ·exact .inl (.inr (.inl e))
  ·rcases (hvf' k e).2 with h1 | h1
   ·exact .inl (.inr (.inr h1))
   ·exact .inr h1) (by
  rintro k (rfl | e | e)
  ·exact hg1.lt
  ·rw[hvo k e];exact hG1.lt
  ·exact Nat.lt_of_lt_of_le (hvf' k e).1.1 HL.fr.size) (by simpa[Sb.letGo] using hg1) (by
   have hn:(σ.letGo i).slots.length=σ.slots.length:=by simp[Sb.letGo]
   rw[hn];refine xfx HE.out hG1 (by rw[xe2,hn]) hcap hmx ?_;have h1:=hlen'.out;rw[List.length_append,xe2] at h1 ⊢
   rw[hn];exact h1) (by
   have hn:(σ.letGo i).free.length=σ.free.length+1:=by simp[Sb.letGo]
   have hr:rowF (σ.letGo i)=rowF σ++[.int .i64 ((i+1:Nat):Int)]:=by simp[Sb.letGo,rowF]
   rw[hn,hr]
   exact xbm hrow (fun k hk=>HL.heap (hvf' k hk).1)) (Sb.letGo_ok HH.out.1.ok i hi hu) (by
   intro e he;rcases List.mem_or_eq_of_mem_set he with he | rfl
   ·exact .inl he
   ·exact .inr ⟨⟨rfl,Nat.le_refl _,Nat.zero_le _,Rd.nil _ _,fun ad e=>by cases e⟩,fun ad e=>by cases e⟩)
 exact⟨_,vf',rfl,hag.1,hag.2,hfin⟩
end
theorem fold_set(l:List Value):∀ (cs:List Value)(off k:Nat),off+k+l.length≤cs.length→(l.zipIdx k).foldl (fun(cs:Array Value)(x:Value×Nat)=>cs.setIfInBounds (off+x.2) x.1) cs.toArray=(splice cs (off+k) l).toArray:=by
 induction l with
 | nil=>intro cs off k h;simp[xfs]
 | cons v l ih =>
  intro cs off k h;simp only[qr] at h;rw[List.zipIdx_cons,List.foldl_cons];simp only[qf];rw[ih (cs.set (off+k) v) off (k+1) (by simp;omega),← xgb cs (off+k) v l (by omega)];rfl
theorem xaj{place:Nat→Option (Nat×Nat)}{cs:List Value}{i off size:Nat}{v:Value}{vs:List Value}{rest:List (Nat×Value)}{r:Option (Array Value)}(hp:place i=some (off,size))(hv:v.cells=vs.toArray)(hs:vs.length=size)(hf:off+size≤cs.length)
  (h:Instr.fill place (splice cs off vs).toArray rest=r):Instr.fill place cs.toArray ((i,v)::rest)=r:=by
 rw[← h];have e:=fold_set vs cs off 0 (by omega);simp only[Instr.fill,hp,hv];rw[if_neg (by simp;omega)];congr 1;rw[← Array.foldl_toList,Array.toList_zipIdx];exact e
structure BS (P:Program)(T:Nat)(zs:List Value)(pl:List (Nat×Nat)):Prop where
 h:∀ parts,P.built T parts=Instr.fill (fun x=>pl.toArray[x]?) zs.toArray parts
theorem BS.of{P:Program}{T:Nat}{fs:Array Field}{zs:List Value}{pl:List (Nat×Nat)}(hu:P.underlying T=some (.struct fs))(hz:(P.info? T).map (·.zero)=some (some (.agg zs.toArray)))
  (hp:fs.toList.mapM (fun f=>(P.info? f.type).map fun i=>(f.offset,i.size))=some pl):BS P T zs pl:=by
 constructor;intro parts
 cases hq:P.info? T with
 | none=>simp[hq] at hz
 | some it =>
  have h1:it.zero=some (.agg zs.toArray):=by simpa[hq] using hz
  simp[Program.built,hq,hu,hp,h1,Value.cells]
section
variable {P:Program}{T:TypeId}{w:World}{o:Oper}{a:Act}{zs:List Value}{pl:List (Nat×Nat)}
theorem xbp(B:BS P T zs pl)(parts:List (Nat×Operand))(ho:o.op=.build T parts.toArray)(cs:List Value)(h:Instr.fill (fun x=>pl.toArray[x]?) zs.toArray (parts.map fun(i,x)=>(i,a.eval x))=some cs.toArray) :
  (execOp a.eval o).run P w=.ok (.value (.agg cs.toArray)) w :=
 xc2 parts.toArray ho cs.toArray (by rw[B.h];simpa using h)
theorem xpa(B:BS P T zs pl)(ho:o.op=.build T #[]):(execOp a.eval o).run P w=.ok (.value (.agg zs.toArray)) w :=
 xbp B [] ho zs rfl
end
theorem xbg{α:Type}(L:List α)(k:Nat)(v:α)(h:k<L.length):splice L k [v]=L.set k v:=by
 have:=xgb L k v [] h;rw[xfs] at this;exact this.symm
theorem xev(v:Value)(h:v.oneCell'=true):v.cells = [v].toArray:=by cases v<;>first | rfl | (simp[Value.oneCell'] at h)
end Go.Proofs.YtkjjdgnkelchfaaGreat
