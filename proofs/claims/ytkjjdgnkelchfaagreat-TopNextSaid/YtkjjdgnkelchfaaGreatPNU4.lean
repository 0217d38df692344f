import Derived.Test.YtkjjdgnkelchfaaGreatPNU3
set_option linter.unusedSimpArgs false
set_option linter.unusedVariables false
set_option maxRecDepth 100000
set_option maxHeartbeats 16000000
namespace Go.Proofs.YtkjjdgnkelchfaaGreat
open Go Go.RowKit Go.Proofs.Tryz
theorem word_or(a b c d:Nat)(ha:a<256)(hb:b<256)(hc:c<256)(hd:d<256) :
  (((a*16777216%4294967296) ||| (b*65536%4294967296)) ||| (c*256%4294967296)) ||| d=a*16777216+b*65536+c*256+d:=by
 rw[Nat.mod_eq_of_lt (by omega),Nat.mod_eq_of_lt (by omega),Nat.mod_eq_of_lt (by omega)];rw[nat_join 24 (a*16777216) (b*65536) (by omega) (by omega)];rw[nat_join 16 _ (c*256) (by omega) (by omega),nat_join 8 _ d (by omega) (by omega)]
theorem xt3(b:LU)(k:Nat)(hk:k<16):(first k b++zw (64 - k)).set k (xfr b k)=first (k+1) b++zw (64 - (k+1)):=by
 rw[List.set_append_right _ _ (by rw[xdx];omega),xdx,Nat.sub_self];unfold zw;rw[show 64 - k=(64 - (k+1))+1 by omega,List.replicate_succ,List.set_cons_zero,first,List.append_assoc];rfl
theorem ext_set(l:List Nat)(t n:Nat)(hl:l.length=t)(ht:t<64):(l++zw (64 - t)).set t n=(l++[n])++zw (64 - (t+1)):=by
 rw[List.set_append_right _ _ (by omega),hl,Nat.sub_self];unfold zw;rw[show 64 - t=(64 - (t+1))+1 by omega,List.replicate_succ,List.set_cons_zero,List.append_assoc];rfl
theorem xjm(l z:List Nat)(i:Nat)(h:i<l.length):(l++z)[i]? = some (l.getD i 0):=by
 rw[List.getElem?_append_left h,List.getD_eq_getElem?_getD,List.getElem?_eq_getElem h];rfl
theorem xg6(l:List Nat)(i:Nat)(hl:∀ x∈l,x<4294967296):l.getD i 0<4294967296:=by
 rcases Nat.lt_or_ge i l.length with h | h
 ·rw[List.getD_eq_getElem?_getD,List.getElem?_eq_getElem h]
  exact hl _ (List.getElem_mem h)
 ·rw[List.getD_eq_getElem?_getD,List.getElem?_eq_none h]
  decide
theorem ext_zero(l:List Nat):ext 0 l=l:=rfl
theorem xhe(b:LU)(i:Nat)(h:i<b.length):b[i]? = some (b.getD i 0):=by
 rw[List.getD_eq_getElem?_getD,List.getElem?_eq_getElem h];rfl
theorem xm4(b:LU)(w:World)(hl:b.length=64) :
  Calls prog 244 #[arr8 b] w (oB w (arrW (xf9 b))):=by
 have HL:=hZ hl;have b1:Blk (w.alloc (.cells (bvs b).toArray 322)) w.heap.size 322 (bvs b):=Blk.new _ _ _
 have b2:Blk ((w.alloc (.cells (bvs b).toArray 322)).alloc (.cells (wvs (zw 64)).toArray 356)) (w.heap.size+1) 356 (wvs (zw 64)):=by
  have:=Blk.new (w.alloc (.cells (bvs b).toArray 322)) 356 (wvs (zw 64));rwa [show(w.alloc (.cells (bvs b).toArray 322)).heap.size=w.heap.size+1 by simp] at this
 have b3:Blk (((w.alloc (.cells (bvs b).toArray 322)).alloc (.cells (wvs (zw 64)).toArray 356)).alloc (.cells (wvs (zw 64)).toArray 356)) (w.heap.size+2) 356 (wvs (zw 64)):=by
  have:=Blk.new ((w.alloc (.cells (bvs b).toArray 322)).alloc (.cells (wvs (zw 64)).toArray 356)) 356 (wvs (zw 64));rwa [show((w.alloc (.cells (bvs b).toArray 322)).alloc (.cells (wvs (zw 64)).toArray 356)).heap.size=w.heap.size+2 by simp] at this
 have hall:=And.intro ((b1.alloc (.cells (wvs (zw 64)).toArray 356)).alloc (.cells (wvs (zw 64)).toArray 356)) (And.intro (b2.alloc (.cells (wvs (zw 64)).toArray 356)) (And.intro b3
  ((((Below.refl w.heap.size w).alloc (Nat.le_refl _) (.cells (bvs b).toArray 322)).alloc (by simp) (.cells (wvs (zw 64)).toArray 356)).alloc (by simp;omega) (.cells (wvs (zw 64)).toArray 356))))
 clear b1 b2 b3 hl;have HSE:=hZ (xoo b);have HS64:=hZ (xep b);generalize xf9 b=sb at *;unfold arr8 arrW;go_enter func244,ntmps244;go_wp2_with fail;generalize hW:World.alloc (World.alloc (World.alloc w _) _) _=w0;have h3:Blk w0 w.heap.size 322 (bvs b)∧Blk w0 (w.heap.size+1) 356 (wvs (zw 64))∧Blk w0 (w.heap.size+2) 356 (wvs (zw 64))∧Bw w w0:=by rw[← hW];exact hall
 clear hall hW;obtain⟨c1,c2,c3,c4⟩:=h3
 go_loopw [10] (fun i wr=>∃ k:Nat,k≤16∧i=.int .i64 (k:Int)∧Blk wr w.heap.size 322 (bvs b)∧Blk wr (w.heap.size+1) 356 (wvs (zw 64))∧Blk wr (w.heap.size+2) 356 (wvs (first k b++zw (64 - k)))∧Bw w wr) (fun i _=>16 - (intOf i).toNat)
 case atStart=>exact⟨0,by omega,by go_num,c1,c2,c3,c4⟩
 case round =>
  obtain⟨k,hk,rfl,d1,d2,d3,d4⟩:=hrel;by_cases hlt:k<16
  ·have hk0:(k:Int)<16:=by omega
   go_upto_region 5 with fail;have e0:=hZ (xhe b (4*k) (by rw[HL.out];omega));have e1:=hZ (xhe b (4*k+1) (by rw[HL.out];omega));have e2:=hZ (xhe b (4*k+2) (by rw[HL.out];omega));have e3:=hZ (xhe b (4*k+3) (by rw[HL.out];omega));refine rB (fun W=>W=wr.drew) [31] [31] [0,1,2,3,4,5,6,7,8,9,10,11,12,13,14,15,16,17,18,19,20,21,22,23,24,25,26,27,28,29,30,31] 0 ?_;refine X4 ?_;have hS:(fun W=>W=wr.drew) _:=rfl;refine X8 ?_;refine Xd ?_;refine X6 ?_;refine Xe ?_;refine X6 ?_;refine xab rfl rfl hS (fun W hW=>xft w5 _ rfl _ _ _ _ _ rfl ((by subst hW;exact d1.drew)) (e0.out)) ?_;refine X6 ?_
   refine xab rfl rfl hS (fun W hW=>xgn underlying5 underlying306 _ rfl _ rfl (by with_reducible repeat' first | assumption | exact xbr _ _ | exact xbf _ | exact xat _ | exact xau _ | refine xaq ?_ ?_ | refine xa1 ?_ ?_ | refine xar ?_ | refine xa0 _ _ ?_ | refine xas _ ?_)) ?_;refine X6 ?_;refine xab rfl rfl hS (fun W hW=>xia _ _ rfl _ 24 _ rfl rfl (by decide) 16777216 rfl) ?_;refine X9 ?_;refine Xd ?_;refine X6 ?_;refine xab rfl rfl hS (fun W hW=>xa6 _ _ rfl _ _ (((4*k+1:Nat):Int)) rfl rfl (by omega) (by omega)) ?_;refine X6 ?_;refine Xe ?_;refine X6 ?_;refine xab rfl rfl hS (fun W hW=>xft w5 _ rfl _ _ _ _ _ rfl ((by subst hW;exact d1.drew)) (e1.out)) ?_;refine X6 ?_
   refine xab rfl rfl hS (fun W hW=>xgn underlying5 underlying306 _ rfl _ rfl (by with_reducible repeat' first | assumption | exact xbr _ _ | exact xbf _ | exact xat _ | exact xau _ | refine xaq ?_ ?_ | refine xa1 ?_ ?_ | refine xar ?_ | refine xa0 _ _ ?_ | refine xas _ ?_)) ?_;refine X6 ?_;refine xab rfl rfl hS (fun W hW=>xia _ _ rfl _ 16 _ rfl rfl (by decide) 65536 rfl) ?_;refine X6 ?_
   refine xab rfl rfl hS (fun W hW=>xkb _ _ rfl _ _ rfl rfl (by with_reducible repeat' first | assumption | exact xbr _ _ | exact xbf _ | exact xat _ | exact xau _ | refine xaq ?_ ?_ | refine xa1 ?_ ?_ | refine xar ?_ | refine xa0 _ _ ?_ | refine xas _ ?_) (by with_reducible repeat' first | assumption | exact xbr _ _ | exact xbf _ | exact xat _ | exact xau _ | refine xaq ?_ ?_ | refine xa1 ?_ ?_ | refine xar ?_ | refine xa0 _ _ ?_ | refine xas _ ?_)) ?_;refine X9 ?_;refine Xd ?_;refine X6 ?_;refine xab rfl rfl hS (fun W hW=>xa6 _ _ rfl _ _ (((4*k+2:Nat):Int)) rfl rfl (by omega) (by omega)) ?_;refine X6 ?_;refine Xe ?_;refine X6 ?_;refine xab rfl rfl hS (fun W hW=>xft w5 _ rfl _ _ _ _ _ rfl ((by subst hW;exact d1.drew)) (e2.out)) ?_;refine X6 ?_
   refine xab rfl rfl hS (fun W hW=>xgn underlying5 underlying306 _ rfl _ rfl (by with_reducible repeat' first | assumption | exact xbr _ _ | exact xbf _ | exact xat _ | exact xau _ | refine xaq ?_ ?_ | refine xa1 ?_ ?_ | refine xar ?_ | refine xa0 _ _ ?_ | refine xas _ ?_)) ?_;refine X6 ?_;refine xab rfl rfl hS (fun W hW=>xia _ _ rfl _ 8 _ rfl rfl (by decide) 256 rfl) ?_;refine X6 ?_
   refine xab rfl rfl hS (fun W hW=>xkb _ _ rfl _ _ rfl rfl (by with_reducible repeat' first | assumption | exact xbr _ _ | exact xbf _ | exact xat _ | exact xau _ | refine xaq ?_ ?_ | refine xa1 ?_ ?_ | refine xar ?_ | refine xa0 _ _ ?_ | refine xas _ ?_) (by with_reducible repeat' first | assumption | exact xbr _ _ | exact xbf _ | exact xat _ | exact xau _ | refine xaq ?_ ?_ | refine xa1 ?_ ?_ | refine xar ?_ | refine xa0 _ _ ?_ | refine xas _ ?_)) ?_;refine X9 ?_;refine Xd ?_;refine X6 ?_;refine xab rfl rfl hS (fun W hW=>xa6 _ _ rfl _ _ (((4*k+3:Nat):Int)) rfl rfl (by omega) (by omega)) ?_;refine X6 ?_;refine Xe ?_;refine X6 ?_;refine xab rfl rfl hS (fun W hW=>xft w5 _ rfl _ _ _ _ _ rfl ((by subst hW;exact d1.drew)) (e3.out)) ?_;refine X6 ?_
   refine xab rfl rfl hS (fun W hW=>xgn underlying5 underlying306 _ rfl _ rfl (by with_reducible repeat' first | assumption | exact xbr _ _ | exact xbf _ | exact xat _ | exact xau _ | refine xaq ?_ ?_ | refine xa1 ?_ ?_ | refine xar ?_ | refine xa0 _ _ ?_ | refine xas _ ?_)) ?_;refine X6 ?_;refine xab rfl rfl hS (fun W hW=>xkb _ _ rfl _ _ rfl rfl (by with_reducible repeat' first | assumption | exact xbr _ _ | exact xbf _ | exact xat _ | exact xau _ | refine xaq ?_ ?_ | refine xa1 ?_ ?_ | refine xar ?_ | refine xa0 _ _ ?_ | refine xas _ ?_) (by with_reducible repeat' first | assumption | exact xbr _ _ | exact xbf _ | exact xat _ | exact xau _ | refine xaq ?_ ?_ | refine xa1 ?_ ?_ | refine xar ?_ | refine xa0 _ _ ?_ | refine xas _ ?_)) ?_;refine X6 ?_
   refine Xf ?_;refine Xh ?_;intro K hK;refine xcn one94 _ _ rfl _ _ _ _ _ rfl rfl rfl d3.drew (by rw[xag];simp[xdx,xch];omega) ?_;rw[word_or _ _ _ _ (b.getD (4*k) 0).toNat_lt (b.getD (4*k+1) 0).toNat_lt (b.getD (4*k+2) 0).toNat_lt (b.getD (4*k+3) 0).toNat_lt]
   have d3':Blk ((wr.drew).setCell ⟨w.heap.size+2,k,none⟩ (.int .u32 ((xfr b k:Nat):Int))) (w.heap.size+2) 356 (wvs (first (k+1) b++zw (64 - (k+1)))):=by
    have:=(Blk.drew d3).setw (i:=k) (n:=xfr b k);rwa [xt3 b k hlt] at this
   have d1':=(Blk.drew d1).far (p:=⟨w.heap.size+2,k,none⟩) (by simp) (.int .u32 ((xfr b k:Nat):Int));have d2':=(Blk.drew d2).far (p:=⟨w.heap.size+2,k,none⟩) (by simp) (.int .u32 ((xfr b k:Nat):Int));have d4':=(Below.drew d4).setCell (p:=⟨w.heap.size+2,k,none⟩) (by simp) (.int .u32 ((xfr b k:Nat):Int));refine Xi ?_;clear hK;refine Xa ?_;go_wp2_with fail;go_roundw
   case rel=>exact⟨k+1,by omega,by go_num,d1',d2',d3',d4'⟩
   case measure=>simp only[intOf];omega
  ·obtain rfl:k=16:=by omega
   clear hlt hk c1 c2 c3 c4 w0;go_wp2_with fail
   go_loopw [5] (fun i wr=>∃ (t:Nat)(cur:List Nat),16≤t∧t≤64∧i=.int .i64 (t:Int)∧Hid (cur.length=t)∧Hid (ext (64 - t) cur=sb)∧(∀ x∈cur,x<4294967296) ∧
    Blk wr (w.heap.size+1) 356 (wvs (zw 64))∧Blk wr (w.heap.size+2) 356 (wvs (cur++zw (64 - t)))∧Bw w wr) (fun i _=>64 - (intOf i).toNat)
   case atStart=>exact⟨16,first 16 b,by omega,by omega,by go_num,hZ (xdx _ _),hZ HSE.out.symm,first_lt _ _,d2,d3,d4⟩
   case round =>
    clear d1 d2 d3 d4;obtain⟨t,cur,h16,h64,rfl,HC,HE,hlt,d2,d3,d4⟩:=hrel;by_cases htl:t<64
    ·skip
     obtain⟨x,hx⟩:∃ x,x=cur.getD (t - 2) 0:=⟨_,rfl⟩;obtain⟨y,hy⟩:∃ x,x=cur.getD (t - 15) 0:=⟨_,rfl⟩;obtain⟨p,hp⟩:∃ x,x=cur.getD (t - 7) 0:=⟨_,rfl⟩;obtain⟨q,hq⟩:∃ x,x=cur.getD (t - 16) 0:=⟨_,rfl⟩;have bx:x<4294967296:=by rw[hx];exact xg6 _ _ hlt
     have by_:y<4294967296:=by rw[hy];exact xg6 _ _ hlt
     have ex:Hid ((cur++zw (64 - t))[t - 2]? = some x):=hZ (by rw[hx];exact xjm _ _ _ (by rw[HC.out];omega));have ey:Hid ((cur++zw (64 - t))[t - 15]? = some y):=hZ (by rw[hy];exact xjm _ _ _ (by rw[HC.out];omega));have ep:Hid ((cur++zw (64 - t))[t - 7]? = some p):=hZ (by rw[hp];exact xjm _ _ _ (by rw[HC.out];omega));have eq:Hid ((cur++zw (64 - t))[t - 16]? = some q):=hZ (by rw[hq];exact xjm _ _ _ (by rw[HC.out];omega));have HN:Hid (nw cur=ad (ad (ad (sg1 x) p) (sg0 y)) q):=hZ (by unfold nw;rw[HC.out,hx,hy,hp,hq])
     have hlt':∀ z∈cur++[nw cur],z<4294967296:=by
      intro z hz;rcases List.mem_append.1 hz with hz | hz
      ·exact hlt z hz
      ·rw[List.mem_singleton.1 hz];exact xbr _ _
     have HE':Hid (ext (64 - (t+1)) (cur++[nw cur])=sb):=hZ (by rw[← xon,show 64 - (t+1)+1=64 - t by omega];exact HE.out);have HC':Hid ((cur++[nw cur]).length=t+1):=hZ (by rw[List.length_append,HC.out];rfl);have HS:Hid ((cur++zw (64 - t)).set t (nw cur)=(cur++[nw cur])++zw (64 - (t+1))):=hZ (ext_set _ _ _ HC.out htl);have HLen:Hid (t<(wvs (cur++zw (64 - t))).length):=hZ (by rw[xag,List.length_append,HC.out,xch];omega);have X17:=fun u=>hZ (xcw x 15 17 17 u bx (by decide +kernel) (by decide) rfl)
     have X19:=fun u=>hZ (xcw x 13 19 19 u bx (by decide +kernel) (by decide) rfl)
     have Y7:=fun u=>hZ (xcw y 25 7 7 u by_ (by decide +kernel) (by decide) rfl)
     have Y18:=fun u=>hZ (xcw y 14 18 18 u by_ (by decide +kernel) (by decide) rfl)
     clear hx hy hp hq HE HC hlt;generalize nw cur=nn at *;generalize cur++zw (64 - t)=cc at *;generalize cur++[nn]=cn at *;go_upto_region 10 with fail;refine rB (fun W=>W=wr.drew) [] [] [0,1,2,3,4,5,6,7,8,9] 0 ?_;refine X4 ?_;have hS:(fun W=>W=wr.drew) _:=rfl;refine X7 ?_;refine xab rfl rfl hS (fun W hW=>xa2 _ _ rfl _ _ (((t - 2:Nat):Int)) rfl rfl (by omega) (by omega)) ?_;refine X6 ?_;refine Xf ?_;refine X6 ?_;refine xab rfl rfl hS (fun W hW=>xbb w94 _ rfl _ _ _ _ _ rfl ((by subst hW;exact d3.drew)) (ex.out)) ?_;refine X9 ?_;refine xab rfl rfl hS (fun W hW=>xa2 _ _ rfl _ _ (((t - 15:Nat):Int)) rfl rfl (by omega) (by omega)) ?_;refine X6 ?_;refine Xf ?_;refine X6 ?_;refine xab rfl rfl hS (fun W hW=>xbb w94 _ rfl _ _ _ _ _ rfl ((by subst hW;exact d3.drew)) (ey.out)) ?_;refine X9 ?_
     refine X5 ?_;refine Xb ?_
     go_upto_region 13 with(first
      | ((with_reducible refine xa4 61 ?_);refine xaa rfl _ (xcr _ _ rfl _ _ rfl rfl (by with_reducible repeat' first | assumption | exact xbr _ _ | exact xbf _ | exact xat _ | exact xau _ | refine xaq ?_ ?_ | refine xa1 ?_ ?_ | refine xar ?_ | refine xa0 _ _ ?_ | refine xas _ ?_) (by with_reducible repeat' first | assumption | exact xbr _ _ | exact xbf _ | exact xat _ | exact xau _ | refine xaq ?_ ?_ | refine xa1 ?_ ?_ | refine xar ?_ | refine xa0 _ _ ?_ | refine xas _ ?_)) ?_)
      | ((with_reducible refine xa4 63 ?_);refine xaa rfl _ (xly _ _ rfl _ 10 _ rfl rfl (by decide) 1024 rfl) ?_)
      | ((with_reducible refine xa4 64 ?_);refine xaa rfl _ (xcr _ _ rfl _ _ rfl rfl (by with_reducible repeat' first | assumption | exact xbr _ _ | exact xbf _ | exact xat _ | exact xau _ | refine xaq ?_ ?_ | refine xa1 ?_ ?_ | refine xar ?_ | refine xa0 _ _ ?_ | refine xas _ ?_) (by with_reducible repeat' first | assumption | exact xbr _ _ | exact xbf _ | exact xat _ | exact xau _ | refine xaq ?_ ?_ | refine xa1 ?_ ?_ | refine xar ?_ | refine xa0 _ _ ?_ | refine xas _ ?_)) ?_)
      | ((with_reducible refine xa4 69 ?_);refine xaa rfl _ (xcr _ _ rfl _ _ rfl rfl (by with_reducible repeat' first | assumption | exact xbr _ _ | exact xbf _ | exact xat _ | exact xau _ | refine xaq ?_ ?_ | refine xa1 ?_ ?_ | refine xar ?_ | refine xa0 _ _ ?_ | refine xas _ ?_) (by with_reducible repeat' first | assumption | exact xbr _ _ | exact xbf _ | exact xat _ | exact xau _ | refine xaq ?_ ?_ | refine xa1 ?_ ?_ | refine xar ?_ | refine xa0 _ _ ?_ | refine xas _ ?_)) ?_)
      | ((with_reducible refine xa4 71 ?_);refine xaa rfl _ (xly _ _ rfl _ 3 _ rfl rfl (by decide) 8 rfl) ?_)
      | ((with_reducible refine xa4 72 ?_);refine xaa rfl _ (xcr _ _ rfl _ _ rfl rfl (by with_reducible repeat' first | assumption | exact xbr _ _ | exact xbf _ | exact xat _ | exact xau _ | refine xaq ?_ ?_ | refine xa1 ?_ ?_ | refine xar ?_ | refine xa0 _ _ ?_ | refine xas _ ?_) (by with_reducible repeat' first | assumption | exact xbr _ _ | exact xbf _ | exact xat _ | exact xau _ | refine xaq ?_ ?_ | refine xa1 ?_ ?_ | refine xar ?_ | refine xa0 _ _ ?_ | refine xas _ ?_)) ?_)
      | (go_at_call 246;with_reducible refine(X17 _).out.mono ?_;rintro e _ ⟨rfl,rfl⟩)
      | (go_at_call 246;with_reducible refine(X19 _).out.mono ?_;rintro e _ ⟨rfl,rfl⟩)
      | (go_at_call 246;with_reducible refine(Y7 _).out.mono ?_;rintro e _ ⟨rfl,rfl⟩)
      | (go_at_call 246;with_reducible refine(Y18 _).out.mono ?_;rintro e _ ⟨rfl,rfl⟩))
     refine rB (fun W=>W=wr.drew.drew) [15] [15] [0,1,2,3,4,5,6,7,8,9,10,11,12,13,14,15] 0 ?_;refine X4 ?_;have hS2:(fun W=>W=wr.drew.drew) _:=rfl;refine Xj ?_;refine Xk ?_;refine Xl ?_;refine xab rfl rfl hS2 (fun W hW=>xa2 _ _ rfl _ _ (((t - 7:Nat):Int)) rfl rfl (by omega) (by omega)) ?_;refine X6 ?_;refine Xm ?_;refine X6 ?_;refine xab rfl rfl hS2 (fun W hW=>xbb w94 _ rfl _ _ _ _ _ rfl ((by subst hW;exact d3.drew.drew)) (ep.out)) ?_;refine X6 ?_;refine Xn ?_;refine Xl ?_;refine Xn ?_;refine Xl ?_;refine xab rfl rfl hS2 (fun W hW=>xa2 _ _ rfl _ _ (((t - 16:Nat):Int)) rfl rfl (by omega) (by omega)) ?_;refine X6 ?_;refine Xm ?_;refine X6 ?_;refine xab rfl rfl hS2 (fun W hW=>xbb w94 _ rfl _ _ _ _ _ rfl ((by subst hW;exact d3.drew.drew)) (eq.out)) ?_;refine X6 ?_;refine Xn ?_;refine X6 ?_
     refine Xm ?_;refine Xh ?_;intro K hK;refine xcn one94 _ _ rfl _ _ _ _ _ rfl rfl rfl d3.drew.drew HLen.out ?_
     have d3':Blk ((wr.drew.drew).setCell ⟨w.heap.size+2,t,none⟩ (.int .u32 ((nn:Nat):Int))) (w.heap.size+2) 356 (wvs (cn++zw (64 - (t+1)))):=by
      have:=(Blk.drew (Blk.drew d3)).setw (i:=t) (n:=nn);rwa [HS.out] at this
     have d2':=(Blk.drew (Blk.drew d2)).far (p:=⟨w.heap.size+2,t,none⟩) (by simp) (.int .u32 ((nn:Nat):Int));have d4':=(Below.drew (Below.drew d4)).setCell (p:=⟨w.heap.size+2,t,none⟩) (by simp) (.int .u32 ((nn:Nat):Int));rw[show ad (ad (ad (rotr x 17 ^^^ rotr x 19 ^^^ x / 1024) p) (rotr y 7 ^^^ rotr y 18 ^^^ y / 8)) q=nn from HN.out.symm];refine Xi ?_;clear hK;refine Xa ?_;go_wp2_with fail;go_roundw
     case rel=>exact⟨t+1,by omega,by omega,by go_num,cn,HC',HE',hlt',d2',d3',d4'⟩
     case measure=>simp only[intOf];omega
    ·obtain rfl:t=64:=by omega
     have HE2:Hid (cur=sb):=hZ (by have h:=HE.out;rw[Nat.sub_self,ext_zero] at h;exact h)
     have d3':Blk wr (w.heap.size+2) 356 (wvs sb):=by
      rw[Nat.sub_self,HE2.out,show zw 0 = [] from rfl,List.append_nil] at d3;exact d3
     clear HE HE2 HC hlt d3 HSE
     go_wp2_with (first
      | ((with_reducible refine xa4 88 ?_);refine xaa rfl _ (xba at176 (.tmp 3) rfl _ 356 (wvs sb) rfl d3' (by rw[xag];exact HS64.out)) ?_)
      | ((with_reducible refine xeg (Op.store 356 (.tmp 2) (.tmp 88)) ?_);refine xal at176.i rfl (.tmp 2) (.tmp 88) rfl (w.heap.size+1) 0 356 (wvs (zw 64)) (wvs sb) rfl rfl d2 (by rw[xag];exact HS64.out) (by rw[xag,xch];omega) (xed _) ?_;intro w1 hb1 hg1 hs1))
     refine Xc ?_;rw[xbx _ _ (by rw[xag,xag,xch];exact HS64.out.symm)] at hb1;refine bodyPost_ret (xb8 rfl at176 _ _ (w.heap.size+1) 356 (wvs sb) rfl hb1 (by rw[xag];exact HS64.out)) rfl ?_;exact⟨rfl,d4.grown hg1 d4.size (by intro k hk;cases hk;omega)⟩
theorem xqk(h:List Nat)(b:LU)(hh:h.length=8):∃ (a0 a1 a2 a3 a4 a5 a6 a7:Nat)(R:List Nat),h = [a0,a1,a2,a3,a4,a5,a6,a7]∧R.length=8∧step h b=List.zipWith ad h R∧rnds shaK (xf9 b) a0 a1 a2 a3 a4 a5 a6 a7=R:=by
 obtain⟨a0,a1,a2,a3,a4,a5,a6,a7,rfl⟩:=eight hh;exact⟨a0,a1,a2,a3,a4,a5,a6,a7,_,rfl,xi3 _ _ _ _ _ _ _ _ _ _,xm0 _ _ _ _ _ _ _ _ b,rfl⟩
theorem two_rows(u:World):Blk ((u.alloc (.cells (wvs (zw 64)).toArray 356)).alloc (.cells (wvs (zw 64)).toArray 356)) u.heap.size 356 (wvs (zw 64))∧Blk ((u.alloc (.cells (wvs (zw 64)).toArray 356)).alloc (.cells (wvs (zw 64)).toArray 356)) (u.heap.size+1) 356 (wvs (zw 64)) ∧
  Below u.heap.size u ((u.alloc (.cells (wvs (zw 64)).toArray 356)).alloc (.cells (wvs (zw 64)).toArray 356)):=by
 refine⟨(Blk.new _ _ _).alloc _,?_,((Below.refl _ _).alloc (Nat.le_refl _) _).alloc (by simp) _⟩;have:=Blk.new (u.alloc (.cells (wvs (zw 64)).toArray 356)) 356 (wvs (zw 64));rwa [show(u.alloc (.cells (wvs (zw 64)).toArray 356)).heap.size=u.heap.size+1 by simp] at this
theorem step_any(h:List Nat)(b:LU)(w:World)(hh:h.length=8)(hlt:∀ x∈h,x<4294967296)(hl:b.length=64) :
  Calls prog 216 #[arrW h,arr8 b] w (oB w (arrW (step h b))):=by
 have HL:=hZ hl;have HH:=hZ hh;have b1:Blk (w.alloc (.cells (wvs h).toArray 320)) w.heap.size 320 (wvs h):=Blk.new _ _ _
 have b2:Blk ((w.alloc (.cells (wvs h).toArray 320)).alloc (.cells (bvs b).toArray 322)) (w.heap.size+1) 322 (bvs b):=by
  have:=Blk.new (w.alloc (.cells (wvs h).toArray 320)) 322 (bvs b);rwa [show(w.alloc (.cells (wvs h).toArray 320)).heap.size=w.heap.size+1 by simp] at this
 have b3:Blk (((w.alloc (.cells (wvs h).toArray 320)).alloc (.cells (bvs b).toArray 322)).alloc (.cells (wvs (zw 8)).toArray 320)) (w.heap.size+2) 320 (wvs (zw 8)):=by
  have:=Blk.new ((w.alloc (.cells (wvs h).toArray 320)).alloc (.cells (bvs b).toArray 322)) 320 (wvs (zw 8));rwa [show((w.alloc (.cells (wvs h).toArray 320)).alloc (.cells (bvs b).toArray 322)).heap.size=w.heap.size+2 by simp] at this
 have hall:=And.intro ((b1.alloc (.cells (bvs b).toArray 322)).alloc (.cells (wvs (zw 8)).toArray 320)) (And.intro (b2.alloc (.cells (wvs (zw 8)).toArray 320)) (And.intro b3
  ((((Below.refl w.heap.size w).alloc (Nat.le_refl _) (.cells (wvs h).toArray 320)).alloc (by simp) (.cells (bvs b).toArray 322)).alloc (by simp;omega) (.cells (wvs (zw 8)).toArray 320))))
 have C1:=fun u=>hZ (xm4 b u hl)
 have C2:=fun u=>hZ (xlh u)
 have HP:=hZ (xqk h b hh);have HWL:=hZ (xep b);have HKL:=hZ xf8;have HAT:=hZ (rnds_at (xf9 b) (xep b));have HEN:=hZ (rnds_end (xf9 b) (xep b));have HG:=hZ hlt;clear b1 b2 b3 hl hh hlt;generalize step h b=res at *;generalize xf9 b=ws at *;obtain⟨ks,hks⟩:∃ ks,ks=shaK:=⟨_,rfl⟩;rw[← hks] at HP HKL HAT HEN;rw[← hks] at C2;clear hks;unfold arr8 arrW at *;go_enter func216,ntmps216;go_upto_region 1 with fail;generalize hW:World.alloc (World.alloc (World.alloc w _) _) _=w0;have h3:Blk w0 w.heap.size 320 (wvs h)∧Blk w0 (w.heap.size+1) 322 (bvs b)∧Blk w0 (w.heap.size+2) 320 (wvs (zw 8))∧Bw w w0:=by rw[← hW];exact hall
 clear hall hW;obtain⟨c1,c2,c3,c4⟩:=h3;have A:=fun u=>hZ (two_rows u)
 go_upto_region 2 with(first
  | ((with_reducible refine xa4 14 ?_);refine xaa rfl _ (xba at97 (.tmp 3) rfl _ 322 (bvs b) rfl c2 (by rw[xae];exact HL.out)) ?_)
  | (go_at_call 244;with_reducible refine(C1 _).out.mono ?_;rintro e w1 ⟨rfl,hw1⟩)
  | (go_at_call 245;with_reducible refine(C2 _).out.mono ?_;rintro e w2 ⟨rfl,hw2⟩)
  | ((with_reducible refine xeg (Op.store 356 (.tmp 5) (.tmp 15)) ?_);refine xal at176.i rfl (.tmp 5) (.tmp 15) rfl w2.heap.size 0 356 (wvs (zw 64)) (wvs ws) rfl rfl (A w2).out.1 (by rw[xag];exact HWL.out) (by rw[xag,xch];omega) (xed _) ?_;intro w3 hb3 hg3 hs3)
  | ((with_reducible refine xeg (Op.store 356 (.tmp 6) (.tmp 16)) ?_);refine xal at176.i rfl (.tmp 6) (.tmp 16) rfl (w2.heap.size+1) 0 356 (wvs (zw 64)) (wvs ks) rfl rfl ((A w2).out.2.1.grown hg3 (by simp)) (by rw[xag];exact HKL.out) (by rw[xag,xch];omega) (xed _) ?_;intro w4 hb4 hg4 hs4))
 have hB:Bw w0 w2:=hw1.trans (hw2.mono hw1.size);have hB2:Below w0.heap.size w0 ((w2.alloc (.cells (wvs (zw 64)).toArray 356)).alloc (.cells (wvs (zw 64)).toArray 356)):=hB.trans ((A w2).out.2.2.mono hB.size);have hB3:Bw w0 w3:=hB2.grown hg3 hB2.size (by intro k hk;cases hk;exact hB.size);have hB4:Bw w0 w4:=hB3.grown hg4 hB3.size (by intro k hk;cases hk;have:=hB.size;omega);have hs0:w0.heap.size≤w2.heap.size:=hB.size;have hs24:w2.heap.size+2≤w4.heap.size:=by rw[hs4,hs3];simp
 have l1:=c1.lt;have l3:=c3.lt;have d1:=c1.below hB4 c1.lt;have d3:=c3.below hB4 c3.lt
 have d5:Blk w4 w2.heap.size 356 (wvs ws):=by
  rw[xbx _ _ (by rw[xag,xag,xch,HWL.out])] at hb3;exact hb3.grown hg4 (by simp)
 have d6:Blk w4 (w2.heap.size+1) 356 (wvs ks):=by rwa [xbx _ _ (by rw[xag,xag,xch,HKL.out])] at hb4
 have d0:Bw w w4:=c4.trans (hB4.mono c4.size);clear hB hB2 hB3 hB4 hb3 hb4 hg3 hg4 hs3 hs4 hw1 hw2 c1 c2 c3 c4 C1 C2 A;obtain⟨a0,a1,a2,a3,a4,a5,a6,a7,R,hp1,hp2,hp3,hp4⟩:=HP.out;clear HP;have HR2:=hZ hp2;have HR3:=hZ hp3;have HR4:Hid (rnds (ks.drop 0) (ws.drop 0) a0 a1 a2 a3 a4 a5 a6 a7=R):=hZ (by rw[List.drop_zero,List.drop_zero];exact hp4);have HI:=hZ hp1;clear hp1 hp2 hp3 hp4;generalize w2.heap.size=n2 at *;have b7:Blk (w4.alloc (.cells (wvs (zw 8)).toArray 320)) w4.heap.size 320 (wvs (zw 8)):=Blk.new _ _ _
 go_upto_region 3 with(first
  | ((with_reducible refine xa4 17 ?_);refine xaa rfl _ (xba at96 (.tmp 2) rfl _ 320 (wvs h) rfl d1 (by rw[xag];exact HH.out)) ?_)
  | ((with_reducible refine xeg (Op.store 320 (.tmp 7) (.tmp 17)) ?_);refine xal at96.i rfl (.tmp 7) (.tmp 17) rfl w4.heap.size 0 320 (wvs (zw 8)) (wvs h) rfl rfl b7 (by rw[xag];exact HH.out) (by rw[xag,xch];omega) (xed _) ?_;intro w5 hb5 hg5 hs5))
 rw[xbx _ _ (by rw[xag,xag,xch,HH.out])] at hb5;have e1:=(d1.alloc (.cells (wvs (zw 8)).toArray 320)).grown hg5 (by simp;omega);have e3:=(d3.alloc (.cells (wvs (zw 8)).toArray 320)).grown hg5 (by simp;omega);have e5:=(d5.alloc (.cells (wvs (zw 8)).toArray 320)).grown hg5 (by simp;omega);have e6:=(d6.alloc (.cells (wvs (zw 8)).toArray 320)).grown hg5 (by simp;omega);have e0:Bw w w5:=(d0.alloc d0.size (.cells (wvs (zw 8)).toArray 320)).grown hg5 (by have:=d0.size;simp;omega) (by intro k hk;cases hk;exact d0.size);have hz:w.heap.size+2<n2:=by omega
 have hz2:n2+2≤w4.heap.size:=hs24;generalize w4.heap.size=n4 at *;clear d1 d3 d5 d6 d0 b7 hg5 hs5 l1 l3 hs0 hs24 w0 w1 w3 w4;rw[HI.out] at hb5;go_wp2_with fail
 go_loopw [18] (fun i wr=>∃ (t a b c d e f g k:Nat),t≤64∧i=.int .i64 (t:Int)∧(a<4294967296∧b<4294967296∧c<4294967296∧d<4294967296∧e<4294967296∧f<4294967296∧g<4294967296∧k<4294967296) ∧
  Hid (rnds (ks.drop t) (ws.drop t) a b c d e f g k=R)∧Blk wr w.heap.size 320 (wvs h)∧Blk wr (w.heap.size+2) 320 (wvs (zw 8))∧Blk wr n2 356 (wvs ws)∧Blk wr (n2+1) 356 (wvs ks)∧Blk wr n4 320 (wvs [a,b,c,d,e,f,g,k])∧Bw w wr) (fun i _=>64 - (intOf i).toNat)
 case atStart =>
  have hg8:=HG.out;rw[HI.out] at hg8;simp only[List.mem_cons,List.not_mem_nil,or_false,forall_eq_or_imp,forall_eq] at hg8;exact⟨0,a0,a1,a2,a3,a4,a5,a6,a7,by omega,by go_num,hg8,HR4,e1,e3,e5,e6,hb5,e0⟩
 case round =>
  clear e0 e1 e3 e5 e6 hb5 HR4 w5;obtain⟨t,a,x1,x2,x3,e,x5,x6,x7,ht,rfl,⟨l0,l1,l2,l3,l4,l5,l6,l7⟩,HR,g1,g3,g5,g6,g7,g0⟩:=hrel;by_cases htl:t<64
  ·have ht0:(t:Int)<64:=by omega
   obtain⟨kt,hkt⟩:∃ kt,kt=ks.getD t 0:=⟨_,rfl⟩;obtain⟨wt,hwt⟩:∃ wt,wt=ws.getD t 0:=⟨_,rfl⟩;have ek:Hid (ks[t]? = some kt):=hZ (by rw[hkt];exact xgo _ _ (by rw[HKL.out];exact htl));have ew:Hid (ws[t]? = some wt):=hZ (by rw[hwt];exact xgo _ _ (by rw[HWL.out];exact htl));obtain⟨on,hon⟩:∃ on,on=one e x5 x6 x7 kt wt:=⟨_,rfl⟩;obtain⟨tw,htw⟩:∃ tw,tw=two a x1 x2:=⟨_,rfl⟩
   have HR':Hid (rnds (ks.drop (t+1)) (ws.drop (t+1)) (ad on tw) a x1 x2 (ad x3 on) e x5 x6=R):=hZ (by
    rw[hon,htw,hkt,hwt,← HAT.out t htl];exact HR.out)
   have HON:=hZ hon;have HTW:=hZ htw;clear hkt hwt hon htw HR HAT HEN;have E6:=fun u=>hZ (xcw e 26 6 6 u l4 (by decide +kernel) (by decide) rfl)
   have E11:=fun u=>hZ (xcw e 21 11 11 u l4 (by decide +kernel) (by decide) rfl)
   have E25:=fun u=>hZ (xcw e 7 25 25 u l4 (by decide +kernel) (by decide) rfl)
   have A2:=fun u=>hZ (xcw a 30 2 2 u l0 (by decide +kernel) (by decide) rfl)
   have A13:=fun u=>hZ (xcw a 19 13 13 u l0 (by decide +kernel) (by decide) rfl)
   have A22:=fun u=>hZ (xcw a 10 22 22 u l0 (by decide +kernel) (by decide) rfl)
   go_upto_region 6 with fail;refine rB (fun W=>W=wr.drew) [] [] [0,1,2,3,4,5] 0 ?_;refine X4 ?_;have hS:(fun W=>W=wr.drew) _:=rfl;refine xab rfl rfl hS (fun W hW=>xcd ia96 _ _ rfl _ 0 _ rfl rfl (by decide)) ?_;refine X6 ?_;refine xab rfl rfl hS (fun W hW=>xbb w94 _ rfl _ _ _ _ _ rfl ((by subst hW;exact g7.drew)) (rfl)) ?_;refine X6 ?_;refine xab rfl rfl hS (fun W hW=>xcd ia96 _ _ rfl _ 4 _ rfl rfl (by decide)) ?_;refine X6 ?_;refine xab rfl rfl hS (fun W hW=>xbb w94 _ rfl _ _ _ _ _ rfl ((by subst hW;exact g7.drew)) (rfl)) ?_;refine X9 ?_;refine X5 ?_;refine Xb ?_;go_upto_region 7 with fail;refine rB (fun W=>W=wr.drew.drew) [] [3,5,8] [0,1,2,4,7,11,12,13,14,15,16,17,18,19,20,22,23,24,26,27,28,3,5,6,8,9,10,21,25,29,30] 0 ?_;refine X4 ?_
   have hS2:(fun W=>W=wr.drew.drew) _:=rfl;refine xab rfl rfl hS2 (fun W hW=>xcd ia96 _ _ rfl _ 7 _ rfl rfl (by decide)) ?_;refine X6 ?_;refine xab rfl rfl hS2 (fun W hW=>xbb w94 _ rfl _ _ _ _ _ rfl ((by subst hW;exact g7.drew.drew)) (rfl)) ?_;refine Xk ?_;refine Xk ?_;refine Xk ?_;refine Xl ?_;refine xab rfl rfl hS2 (fun W hW=>xcd ia96 _ _ rfl _ 5 _ rfl rfl (by decide)) ?_;refine X6 ?_;refine xab rfl rfl hS2 (fun W hW=>xbb w94 _ rfl _ _ _ _ _ rfl ((by subst hW;exact g7.drew.drew)) (rfl)) ?_;refine X6 ?_
   refine xab rfl rfl hS2 (fun W hW=>xfd _ _ rfl _ _ rfl rfl (by with_reducible repeat' first | assumption | exact xbr _ _ | exact xbf _ | exact xat _ | exact xau _ | refine xaq ?_ ?_ | refine xa1 ?_ ?_ | refine xar ?_ | refine xa0 _ _ ?_ | refine xas _ ?_) (by with_reducible repeat' first | assumption | exact xbr _ _ | exact xbf _ | exact xat _ | exact xau _ | refine xaq ?_ ?_ | refine xa1 ?_ ?_ | refine xar ?_ | refine xa0 _ _ ?_ | refine xas _ ?_)) ?_;refine Xl ?_;refine xab rfl rfl hS2 (fun W hW=>xtr _ rfl _ rfl (by with_reducible repeat' first | assumption | exact xbr _ _ | exact xbf _ | exact xat _ | exact xau _ | refine xaq ?_ ?_ | refine xa1 ?_ ?_ | refine xar ?_ | refine xa0 _ _ ?_ | refine xas _ ?_)) ?_;refine X6 ?_
   refine xab rfl rfl hS2 (fun W hW=>xcd ia96 _ _ rfl _ 6 _ rfl rfl (by decide)) ?_;refine X6 ?_;refine xab rfl rfl hS2 (fun W hW=>xbb w94 _ rfl _ _ _ _ _ rfl ((by subst hW;exact g7.drew.drew)) (rfl)) ?_;refine X6 ?_;refine xab rfl rfl hS2 (fun W hW=>xfd _ _ rfl _ _ rfl rfl (by with_reducible repeat' first | assumption | exact xbr _ _ | exact xbf _ | exact xat _ | exact xau _ | refine xaq ?_ ?_ | refine xa1 ?_ ?_ | refine xar ?_ | refine xa0 _ _ ?_ | refine xas _ ?_) (by with_reducible repeat' first | assumption | exact xbr _ _ | exact xbf _ | exact xat _ | exact xau _ | refine xaq ?_ ?_ | refine xa1 ?_ ?_ | refine xar ?_ | refine xa0 _ _ ?_ | refine xas _ ?_)) ?_;refine X6 ?_
   refine xab rfl rfl hS2 (fun W hW=>xcr _ _ rfl _ _ rfl rfl (by with_reducible repeat' first | assumption | exact xbr _ _ | exact xbf _ | exact xat _ | exact xau _ | refine xaq ?_ ?_ | refine xa1 ?_ ?_ | refine xar ?_ | refine xa0 _ _ ?_ | refine xas _ ?_) (by with_reducible repeat' first | assumption | exact xbr _ _ | exact xbf _ | exact xat _ | exact xau _ | refine xaq ?_ ?_ | refine xa1 ?_ ?_ | refine xar ?_ | refine xa0 _ _ ?_ | refine xas _ ?_)) ?_;refine Xl ?_;refine Xm ?_;refine X6 ?_;refine xab rfl rfl hS2 (fun W hW=>xbb w94 _ rfl _ _ _ _ _ rfl ((by subst hW;exact g6.drew.drew)) (ek.out)) ?_;refine Xl ?_;refine Xm ?_;refine X6 ?_;refine xab rfl rfl hS2 (fun W hW=>xbb w94 _ rfl _ _ _ _ _ rfl ((by subst hW;exact g5.drew.drew)) (ew.out)) ?_;refine X6 ?_
   refine xc0 rfl rfl ?_;intro K hK;go_simp;(with_reducible refine(E6 _).out.mono ?_);rintro y _ ⟨rfl,rfl⟩;refine hK _ _ (fun _=>hS2) ?_;clear hK;refine xc0 rfl rfl ?_;intro K hK;go_simp;(with_reducible refine(E11 _).out.mono ?_);rintro y _ ⟨rfl,rfl⟩;refine hK _ _ (fun _=>hS2) ?_;clear hK;refine xab rfl rfl hS2 (fun W hW=>xcr _ _ rfl _ _ rfl rfl (by with_reducible repeat' first | assumption | exact xbr _ _ | exact xbf _ | exact xat _ | exact xau _ | refine xaq ?_ ?_ | refine xa1 ?_ ?_ | refine xar ?_ | refine xa0 _ _ ?_ | refine xas _ ?_) (by with_reducible repeat' first | assumption | exact xbr _ _ | exact xbf _ | exact xat _ | exact xau _ | refine xaq ?_ ?_ | refine xa1 ?_ ?_ | refine xar ?_ | refine xa0 _ _ ?_ | refine xas _ ?_)) ?_;refine X6 ?_
   refine xc0 rfl rfl ?_;intro K hK;go_simp;(with_reducible refine(E25 _).out.mono ?_);rintro y _ ⟨rfl,rfl⟩;refine hK _ _ (fun _=>hS2) ?_;clear hK;refine xab rfl rfl hS2 (fun W hW=>xcr _ _ rfl _ _ rfl rfl (by with_reducible repeat' first | assumption | exact xbr _ _ | exact xbf _ | exact xat _ | exact xau _ | refine xaq ?_ ?_ | refine xa1 ?_ ?_ | refine xar ?_ | refine xa0 _ _ ?_ | refine xas _ ?_) (by with_reducible repeat' first | assumption | exact xbr _ _ | exact xbf _ | exact xat _ | exact xau _ | refine xaq ?_ ?_ | refine xa1 ?_ ?_ | refine xar ?_ | refine xa0 _ _ ?_ | refine xas _ ?_)) ?_;refine X6 ?_;refine Xn ?_;refine X6 ?_;refine Xn ?_;refine X6 ?_;refine Xn ?_;refine X6 ?_;refine Xn ?_;refine Xk ?_;refine Xb ?_
   rw[show ad (ad (ad (ad x7 (rotr e 6 ^^^ rotr e 11 ^^^ rotr e 25)) ((e &&& x5) ^^^ ((4294967295 - e) &&& x6))) kt) wt=on from HON.out.symm];go_upto_region 8 with fail;refine rB (fun W=>W=wr.drew.drew.drew) [] [1,3,6] [0,2,5,8,9,10,11,12,13,14,15,16,17,18,19,20,21,22,1,3,4,6,7,23,24] 0 ?_;refine X4 ?_;have hS3:(fun W=>W=wr.drew.drew.drew) _:=rfl;refine Xo ?_;refine X6 ?_;refine Xo ?_;refine X6 ?_;refine Xo ?_;refine X6 ?_;refine Xo ?_;refine Xp ?_;refine X6 ?_;refine xab rfl rfl hS3 (fun W hW=>xbb w94 _ rfl _ _ _ _ _ rfl ((by subst hW;exact g7.drew.drew.drew)) (rfl)) ?_;refine X6 ?_
   refine xab rfl rfl hS3 (fun W hW=>xfd _ _ rfl _ _ rfl rfl (by with_reducible repeat' first | assumption | exact xbr _ _ | exact xbf _ | exact xat _ | exact xau _ | refine xaq ?_ ?_ | refine xa1 ?_ ?_ | refine xar ?_ | refine xa0 _ _ ?_ | refine xas _ ?_) (by with_reducible repeat' first | assumption | exact xbr _ _ | exact xbf _ | exact xat _ | exact xau _ | refine xaq ?_ ?_ | refine xa1 ?_ ?_ | refine xar ?_ | refine xa0 _ _ ?_ | refine xas _ ?_)) ?_;refine X6 ?_;refine Xo ?_;refine Xq ?_;refine X6 ?_;refine xab rfl rfl hS3 (fun W hW=>xbb w94 _ rfl _ _ _ _ _ rfl ((by subst hW;exact g7.drew.drew.drew)) (rfl)) ?_;refine X6 ?_
   refine xab rfl rfl hS3 (fun W hW=>xfd _ _ rfl _ _ rfl rfl (by with_reducible repeat' first | assumption | exact xbr _ _ | exact xbf _ | exact xat _ | exact xau _ | refine xaq ?_ ?_ | refine xa1 ?_ ?_ | refine xar ?_ | refine xa0 _ _ ?_ | refine xas _ ?_) (by with_reducible repeat' first | assumption | exact xbr _ _ | exact xbf _ | exact xat _ | exact xau _ | refine xaq ?_ ?_ | refine xa1 ?_ ?_ | refine xar ?_ | refine xa0 _ _ ?_ | refine xas _ ?_)) ?_;refine X6 ?_
   refine xab rfl rfl hS3 (fun W hW=>xcr _ _ rfl _ _ rfl rfl (by with_reducible repeat' first | assumption | exact xbr _ _ | exact xbf _ | exact xat _ | exact xau _ | refine xaq ?_ ?_ | refine xa1 ?_ ?_ | refine xar ?_ | refine xa0 _ _ ?_ | refine xas _ ?_) (by with_reducible repeat' first | assumption | exact xbr _ _ | exact xbf _ | exact xat _ | exact xau _ | refine xaq ?_ ?_ | refine xa1 ?_ ?_ | refine xar ?_ | refine xa0 _ _ ?_ | refine xas _ ?_)) ?_;refine Xp ?_;refine X6 ?_;refine xab rfl rfl hS3 (fun W hW=>xbb w94 _ rfl _ _ _ _ _ rfl ((by subst hW;exact g7.drew.drew.drew)) (rfl)) ?_;refine Xq ?_;refine X6 ?_;refine xab rfl rfl hS3 (fun W hW=>xbb w94 _ rfl _ _ _ _ _ rfl ((by subst hW;exact g7.drew.drew.drew)) (rfl)) ?_;refine X6 ?_
   refine xab rfl rfl hS3 (fun W hW=>xfd _ _ rfl _ _ rfl rfl (by with_reducible repeat' first | assumption | exact xbr _ _ | exact xbf _ | exact xat _ | exact xau _ | refine xaq ?_ ?_ | refine xa1 ?_ ?_ | refine xar ?_ | refine xa0 _ _ ?_ | refine xas _ ?_) (by with_reducible repeat' first | assumption | exact xbr _ _ | exact xbf _ | exact xat _ | exact xau _ | refine xaq ?_ ?_ | refine xa1 ?_ ?_ | refine xar ?_ | refine xa0 _ _ ?_ | refine xas _ ?_)) ?_;refine X6 ?_
   refine xab rfl rfl hS3 (fun W hW=>xcr _ _ rfl _ _ rfl rfl (by with_reducible repeat' first | assumption | exact xbr _ _ | exact xbf _ | exact xat _ | exact xau _ | refine xaq ?_ ?_ | refine xa1 ?_ ?_ | refine xar ?_ | refine xa0 _ _ ?_ | refine xas _ ?_) (by with_reducible repeat' first | assumption | exact xbr _ _ | exact xbf _ | exact xat _ | exact xau _ | refine xaq ?_ ?_ | refine xa1 ?_ ?_ | refine xar ?_ | refine xa0 _ _ ?_ | refine xas _ ?_)) ?_;refine X6 ?_;refine xc0 rfl rfl ?_;intro K hK;go_simp;(with_reducible refine(A2 _).out.mono ?_);rintro y _ ⟨rfl,rfl⟩;refine hK _ _ (fun _=>hS3) ?_;clear hK;refine xc0 rfl rfl ?_;intro K hK;go_simp;(with_reducible refine(A13 _).out.mono ?_);rintro y _ ⟨rfl,rfl⟩;refine hK _ _ (fun _=>hS3) ?_;clear hK
   refine xab rfl rfl hS3 (fun W hW=>xcr _ _ rfl _ _ rfl rfl (by with_reducible repeat' first | assumption | exact xbr _ _ | exact xbf _ | exact xat _ | exact xau _ | refine xaq ?_ ?_ | refine xa1 ?_ ?_ | refine xar ?_ | refine xa0 _ _ ?_ | refine xas _ ?_) (by with_reducible repeat' first | assumption | exact xbr _ _ | exact xbf _ | exact xat _ | exact xau _ | refine xaq ?_ ?_ | refine xa1 ?_ ?_ | refine xar ?_ | refine xa0 _ _ ?_ | refine xas _ ?_)) ?_;refine X6 ?_;refine xc0 rfl rfl ?_;intro K hK;go_simp;(with_reducible refine(A22 _).out.mono ?_);rintro y _ ⟨rfl,rfl⟩;refine hK _ _ (fun _=>hS3) ?_;clear hK
   refine xab rfl rfl hS3 (fun W hW=>xcr _ _ rfl _ _ rfl rfl (by with_reducible repeat' first | assumption | exact xbr _ _ | exact xbf _ | exact xat _ | exact xau _ | refine xaq ?_ ?_ | refine xa1 ?_ ?_ | refine xar ?_ | refine xa0 _ _ ?_ | refine xas _ ?_) (by with_reducible repeat' first | assumption | exact xbr _ _ | exact xbf _ | exact xat _ | exact xau _ | refine xaq ?_ ?_ | refine xa1 ?_ ?_ | refine xar ?_ | refine xa0 _ _ ?_ | refine xas _ ?_)) ?_;refine X6 ?_;refine xab rfl rfl hS3 (fun W hW=>xfe _ _ rfl _ _ rfl rfl) ?_;refine X6 ?_;refine Xo ?_;refine Xb ?_;rw[show ad (rotr a 2 ^^^ rotr a 13 ^^^ rotr a 22) ((a &&& x1) ^^^ (a &&& x2) ^^^ (x1 &&& x2))=tw from HTW.out.symm];have g7':=g7.drew.drew.drew
   go_wp2_with (first
    | ((with_reducible refine xa4 81 ?_);refine xaa rfl _ (xfe _ _ rfl _ _ rfl rfl) ?_)
    | ((with_reducible refine xa4 83 ?_);refine xaa rfl _ (xcd ia96 _ _ rfl _ 1 _ rfl rfl (by decide)) ?_)
    | ((with_reducible refine xa4 84 ?_);refine xaa rfl _ (xbb w94 _ rfl _ _ _ _ _ rfl ((g7')) (rfl)) ?_)
    | ((with_reducible refine xa4 85 ?_);refine xaa rfl _ (xcd ia96 _ _ rfl _ 2 _ rfl rfl (by decide)) ?_)
    | ((with_reducible refine xa4 86 ?_);refine xaa rfl _ (xbb w94 _ rfl _ _ _ _ _ rfl ((g7')) (rfl)) ?_)
    | ((with_reducible refine xa4 87 ?_);refine xaa rfl _ (xcd ia96 _ _ rfl _ 3 _ rfl rfl (by decide)) ?_)
    | ((with_reducible refine xa4 88 ?_);refine xaa rfl _ (xbb w94 _ rfl _ _ _ _ _ rfl ((g7')) (rfl)) ?_)
    | ((with_reducible refine xa4 90 ?_);refine xaa rfl _ (xfe _ _ rfl _ _ rfl rfl) ?_)
    | ((with_reducible refine xa4 92 ?_);refine xaa rfl _ (xcd ia96 _ _ rfl _ 5 _ rfl rfl (by decide)) ?_)
    | ((with_reducible refine xa4 93 ?_);refine xaa rfl _ (xbb w94 _ rfl _ _ _ _ _ rfl ((g7')) (rfl)) ?_)
    | ((with_reducible refine xa4 94 ?_);refine xaa rfl _ (xcd ia96 _ _ rfl _ 6 _ rfl rfl (by decide)) ?_)
    | ((with_reducible refine xa4 95 ?_);refine xaa rfl _ (xbb w94 _ rfl _ _ _ _ _ rfl ((g7')) (rfl)) ?_)
    | ((with_reducible refine xa4 96 ?_);refine xaa rfl _ (xc2 _ rfl (wvs [ad on tw,a,x1,x2,ad x3 on,e,x5,x6]).toArray (by kernel_rfl)) ?_)
    | ((with_reducible refine xeg (Op.store 320 (.tmp 7) (.tmp 96)) ?_);refine xal at96.i rfl (.tmp 7) (.tmp 96) rfl n4 0 320 (wvs [a,x1,x2,x3,e,x5,x6,x7]) (wvs [ad on tw,a,x1,x2,ad x3 on,e,x5,x6]) rfl rfl g7' rfl (by rw[xag];exact Nat.le_refl 8) (xed _) ?_;intro w1 hb1 hg1 hs1))
   rw[xbx _ _ (by rw[xag,xag];rfl)] at hb1;go_roundw
   case rel =>
    exact⟨t+1,ad on tw,a,x1,x2,ad x3 on,e,x5,x6,by omega,by go_num,⟨xbr _ _,l0,l1,l2,xbr _ _,l4,l5,l6⟩,HR',g1.drew.drew.drew.grown hg1 (by simp;omega),g3.drew.drew.drew.grown hg1 (by simp;omega),g5.drew.drew.drew.grown hg1 (by simp;omega),g6.drew.drew.drew.grown hg1 (by simp;omega),hb1,
     (Below.drew (Below.drew (Below.drew g0))).grown hg1 g0.size (by intro k hk;cases hk;omega)⟩
   case measure=>simp only[intOf];omega
  ·obtain rfl:t=64:=by omega
   have HV:Hid ([a,x1,x2,x3,e,x5,x6,x7]=R):=hZ (by rw[← HEN.out];exact HR.out);rw[HV.out] at g7;clear HV HR HAT HEN l0 l1 l2 l3 l4 l5 l6 l7 ht htl g5 g6;have HSET:=hZ (fun(j:Nat)(hj:j<8)=>zipT_set h R j HH.out HR2.out hj);have HGET:=hZ (fun(j:Nat)(hj:j<8)=>zipT_get h R j HH.out HR2.out hj);have HZL:=hZ (fun(j:Nat)(hj:j≤8)=>xos h R j HH.out HR2.out hj);have HZE:=hZ (zipT_end h R HH.out);have HZ0:=hZ (xtt h R);go_wp2_with fail
   go_loopw [98] (fun i wr=>∃ j:Nat,j≤8∧i=.int .i64 (j:Int)∧Blk wr w.heap.size 320 (wvs (zipT h R j))∧Blk wr (w.heap.size+2) 320 (wvs (zw 8))∧Blk wr n4 320 (wvs R)∧Bw w wr) (fun i _=>8 - (intOf i).toNat)
   case atStart=>exact⟨0,by omega,by go_num,by rw[HZ0.out];exact g1,g3,g7,g0⟩
   case round =>
    clear g1 g3 g7 g0;obtain⟨j,hj,rfl,g1,g3,g7,g0⟩:=hrel;by_cases hjl:j<8
    ·have hj0:(j:Int)<8:=by omega
     obtain⟨p,hp⟩:∃ p,p=h.getD j 0:=⟨_,rfl⟩;obtain⟨q,hq⟩:∃ q,q=R.getD j 0:=⟨_,rfl⟩;have ep:Hid ((zipT h R j)[j]? = some p):=hZ (by rw[hp];exact HGET.out j hjl);have eq:Hid (R[j]? = some q):=hZ (by rw[hq];exact xgo _ _ (by rw[HR2.out];exact hjl));have es:Hid ((zipT h R j).set j (ad p q)=zipT h R (j+1)):=hZ (by rw[hp,hq];exact HSET.out j hjl);have el:Hid (j<(wvs (zipT h R j)).length):=hZ (by rw[xag,HZL.out j hj];exact hjl);clear hp hq HSET HGET HZL HZE HZ0;generalize zipT h R j=zj at *;go_upto_region 14 with fail;refine rB (fun W=>W=wr.drew) [8] [8] [0,1,2,3,4,5,6,7,8] 0 ?_;refine X4 ?_;have hS4:(fun W=>W=wr.drew) _:=rfl;refine Xr ?_;refine X6 ?_;refine Xs ?_;refine X6 ?_;refine xab rfl rfl hS4 (fun W hW=>xbb w94 _ rfl _ _ _ _ _ rfl ((by subst hW;exact g1.drew)) (ep.out)) ?_
     refine X6 ?_;refine Xr ?_;refine X6 ?_;refine Xs ?_;refine X6 ?_;refine xab rfl rfl hS4 (fun W hW=>xbb w94 _ rfl _ _ _ _ _ rfl ((by subst hW;exact g7.drew)) (eq.out)) ?_;refine X6 ?_;refine xab rfl rfl hS4 (fun W hW=>xfe _ _ rfl _ _ rfl rfl) ?_;refine X6 ?_;refine Xs ?_;refine Xh ?_;intro K hK;refine xcn one94 _ _ rfl _ _ _ _ _ rfl rfl rfl g1.drew el.out ?_
     have g1':Blk ((wr.drew).setCell ⟨w.heap.size,j,none⟩ (.int .u32 ((ad p q:Nat):Int))) w.heap.size 320 (wvs (zipT h R (j+1))):=by
      have:=(Blk.drew g1).setw (i:=j) (n:=ad p q);rwa [es.out] at this
     have g3':=(Blk.drew g3).far (p:=⟨w.heap.size,j,none⟩) (by simp) (.int .u32 ((ad p q:Nat):Int));have g7':=(Blk.drew g7).far (p:=⟨w.heap.size,j,none⟩) (by simp;omega) (.int .u32 ((ad p q:Nat):Int));have g0':=(Below.drew g0).setCell (p:=⟨w.heap.size,j,none⟩) (by simp) (.int .u32 ((ad p q:Nat):Int));refine Xi ?_;clear hK;refine Xa ?_;go_wp2_with fail;go_roundw
     case rel=>exact⟨j+1,by omega,by go_num,g1',g3',g7',g0'⟩
     case measure=>simp only[intOf];omega
    ·obtain rfl:j=8:=by omega
     rw[HZE.out,← HR3.out] at g1;have hrl:Hid (res.length=8):=hZ (by rw[HR3.out,List.length_zipWith,HH.out,HR2.out];rfl);clear HZE HSET HGET HZL HZ0 hjl hj HR3
     go_wp2_with (first
      | ((with_reducible refine xa4 110 ?_);refine xaa rfl _ (xba at96 (.tmp 2) rfl _ 320 (wvs res) rfl g1 (by rw[xag];exact hrl.out)) ?_)
      | ((with_reducible refine xeg (Op.store 320 (.tmp 4) (.tmp 110)) ?_);refine xal at96.i rfl (.tmp 4) (.tmp 110) rfl (w.heap.size+2) 0 320 (wvs (zw 8)) (wvs res) rfl rfl g3 (by rw[xag];exact hrl.out) (by rw[xag,xch];omega) (xed _) ?_;intro w1 hb1 hg1 hs1))
     refine Xc ?_;rw[xbx _ _ (by rw[xag,xag,xch];exact hrl.out.symm)] at hb1;refine bodyPost_ret (xb8 rfl at96 _ _ (w.heap.size+2) 320 (wvs res) rfl hb1 (by rw[xag];exact hrl.out)) rfl ?_;exact⟨rfl,g0.grown hg1 g0.size (by intro k hk;cases hk;omega)⟩
theorem exec_sia{P:Program}{w:World}{a:Act}{o:Oper}{t e:TypeId}(hu:P.underlying t=some (.slice e))(hz:(P.info? e).map (·.size)=some 1)(x y:Operand)(ho:o.op=.indexAddr t x y)(ad:Addr)(n c i:Nat)(k:IntKind)(hx:a.eval x=.slice (some ad) n c)(hy:a.eval y=.int k (i:Int))(hi:i<n) :
  (execOp a.eval o).run P w=.ok (.value (.pointer (some (ad.add i)))) w:=by
 have he:P.elem t=e:=by simp[Program.elem,hu]
 have hs:(sizeOf e).run P w=.ok 1 w:=by
  cases hq:P.info? e with
  | none=>simp[hq] at hz
  | some j =>
   simp[hq] at hz;simp[sizeOf,typeInfo,hq,hz]
 have hr:=run_indexAt_slice (P:=P) w t ad n c k (i:Int) (by rw[he];exact hu);rw[he,if_pos (by omega),hs] at hr;simp only[Result.andThen_ok,Int.toNat_natCast,Nat.mul_one] at hr;unfold execOp;simp only[ho,hx,hy,Sem.run_bind,hr,Result.andThen_ok,Sem.run_pure]
def zb(n:Nat):LU:=List.replicate n 0
theorem xck(n:Nat):(zb n).length=n:=by simp[zb]
def xke:Value→Nat
 | .slice _ n _=>n
 | _=>0
theorem one_new(u:World)(x:UInt8)(v:Value)(hv:bv x=v):Rd (u.alloc (.cells #[v] 5)) (some ⟨u.heap.size,0,none⟩) (bvs [x]):=by
 subst hv;exact Rd.of_blk0 (es:=[]) (by simpa[bvs] using Blk.new u 5 [bv x])
structure Lft (S:Nat→Prop)(w:World)(A:Option Addr)(n c:Nat)(l:LU):Prop where
 len:l.length=n
 cap:n≤c
 max:c≤maxLen
 rd:Rd w A (bvs l)
 far:∀ ad,A=some ad→¬ S ad.block
theorem Lft.fr{S T:Nat→Prop}{w w':World}{A:Option Addr}{n c:Nat}{l:LU}(h:Lft S w A n c l)(hf:Fr T w w')(hT:∀ k,T k→S k):Lft S w' A n c l :=
 ⟨h.len,h.cap,h.max,h.rd.fr hf (fun ad e ht=>h.far ad e (hT _ ht)),h.far⟩
theorem Lft.cut{S:Nat→Prop}{w:World}{A:Option Addr}{n c:Nat}{l:LU}(h:Lft S w A n c l)(m:Nat)(hm:m≤n):Lft S w (cutA A c m 1) (n - m) (c - m) (l.drop m):=by
 refine⟨by simp[h.len],by have:=h.cap;omega,by have:=h.max;omega,?_,?_⟩
 ·have h1:=h.rd.cutA (c:=c) (lo:=m) (z:=1) (by rw[xae,h.len];have:=h.cap;omega) (n - m)
  have e:((bvs l).drop (m*1)).take (n - m)=bvs (l.drop m):=by
   rw[Nat.mul_one];unfold bvs;rw[← List.map_drop,List.take_of_length_le (by simp[h.len])]
  rwa [e] at h1
 ·intro ad e
  unfold cutA at e
  split at e
  ·exact h.far ad e
  ·cases A with
   | none=>cases e
   | some a0 =>
    simp only[Option.map_some,Option.some.injEq] at e;have hb:ad.block=a0.block:=by rw[← e];unfold Addr.add;split<;>rfl
    rw[hb];exact h.far a0 rfl
theorem stb_nil(b:LU)(h:b.length=64):StB [] b:=⟨h,rfl⟩
theorem xt4(w:World):Calls prog 157 #[] w fun e w'=>∃ g,e=.returned (pG g)∧w.heap.size≤g∧St w' g []∧Bw w w':=by
 have C:=fun u=>hZ (xts u)
 unfold arrW at C;go_enter func157,ntmps157;go_upto_region 1 with fail;refine Xt ?_;refine wpList_plain rfl fun K hK=>?_;go_simp
 (with_reducible refine(C _).out.mono ?_);rintro e w1 ⟨rfl,hw1⟩;refine Xv ?_;clear hK;refine xaa rfl _ (xc2 _ rfl (stC shaH (List.replicate 64 0) 0 0).toArray (by kernel_rfl)) ?_;refine X6 ?_;refine wpList_plain rfl fun K hK=>?_;go_simp
 refine hK _ _ ?_;clear hK;refine X10 ?_;go_wp2_with fail;go_ret;refine⟨w1.heap.size,rfl,hw1.size,⟨List.replicate 64 0,stb_nil _ (by simp),?_⟩,hw1.trans (((Below.refl _ _).alloc (Nat.le_refl _) _).mono hw1.size)⟩;exact Blk.new w1 324 (stC shaH (List.replicate 64 0) 0 0)
theorem xr4(g:Nat)(w:World)(hc:w.cell? ⟨g,0,none⟩=some (.bool true)):Calls prog 215 #[pG g] w fun e w'=>e=.returned (.bool false)∧w=w':=by
 go_enter func215,ntmps215
 go_wp2
 go_ret;exact⟨rfl,rfl⟩
theorem xc3{w:World}{a:Act}{o:Oper}(x:Operand)(ho:o.op=.load 3 x)(ad:Addr)(v:Value)(hx:a.eval x=.pointer (some ad))(hc:w.cell? ad=some v):(execOp a.eval o).run prog w=.ok (.value v) w:=by
 obtain⟨d,hu,hd⟩:=w3;exact xb6 hu hd x ho ad v hx hc
theorem Blk.at0{w:World}{g:Nat}{h:List Nat}{b:LU}{n all:Nat}(hb:Blk w g 324 (stC h b n all)):w.cell? ⟨g,0,none⟩=some (.bool true):=by rw[hb.cell];rfl
theorem Blk.atN{w:World}{g:Nat}{h:List Nat}{b:LU}{n all:Nat}(hb:Blk w g 324 (stC h b n all))(hl:h.length=8)(hb':b.length=64):w.cell? ⟨g,73,none⟩=some (iV n):=by rw[hb.cell];exact stC_n hl hb'
theorem Blk.atA{w:World}{g:Nat}{h:List Nat}{b:LU}{n all:Nat}(hb:Blk w g 324 (stC h b n all))(hl:h.length=8)(hb':b.length=64):w.cell? ⟨g,74,none⟩=some (iV all):=by rw[hb.cell];exact stC_all hl hb'
def zst:List Value:=(stC (zw 8) (zb 64) 0 0).set 0 (.bool false)
theorem xkf:zst.length=75:=by unfold zst;rw[List.length_set];exact xdm rfl rfl
theorem zero128:zeroCells324=zst.toArray:=by kernel_rfl
theorem xoy{P:Program}{T E S:TypeId}{w:World}{o:Oper}{a:Act}{Q:Exit→Act→World→Prop}{K:Act→World→Prop}(B:BT P T E S)(d s:Operand)(ho:o.op=.call { callee:=.builtin .copy,args:=#[d,s],argTypes:=#[T,T] })
  (g off dLen dCap:Nat) (ad:Addr) (n sCap:Nat) (hd:a.eval d=.slice (some ⟨g,off,none⟩) dLen dCap) (hs:a.eval s=.slice (some ad) n sCap)
  (t:TypeId) (cs:List Value) (l:LU) (hg:Blk w g t cs) (hr:Rd w (some ad) (bvs l)) (hn:l.length=n) (hfit:off+dLen≤cs.length) (k:Nat) (hk:Nat.min n dLen=k)
  (h:∀ w',Blk w' g t (splice cs off (bvs (l.take dLen)))→w.grownBy w' (some g)→w'.heap.size=w.heap.size→K (a.put o.dst (iV k)) w') :
  o.wp P a w K Q:=by
 obtain⟨i,hi,hz,hsz,hb⟩:=info_parts B.i;subst hn;subst hk
 have hlen:(bvs (l.take dLen)).length=Nat.min l.length dLen:=by
  show _=min l.length dLen;simp[bvs];omega
 have hsrc:∀ j u,(bvs (l.take dLen))[j]? = some u→w.cell? (ad.add j)=some u:=by
  intro j u hu;by_cases h0:0<(bvs l).length
  ·obtain⟨ad',e,hc⟩:=hr h0
   cases e;apply hc
   have hj:j<(l.take dLen).length:=by
    have:=(List.getElem?_eq_some_iff.1 hu).1;rwa [xae] at this
   rw[xe5,List.getElem?_take_of_lt (by simp at hj;omega)] at hu;rw[xe5,hu]
  ·have:l = []:=List.eq_nil_of_length_eq_zero (by simpa[bvs] using h0)
   subst this;simp[bvs] at hu
 have hfl:off+(bvs (l.take dLen)).length≤cs.length:=by
  rw[hlen];have:Nat.min l.length dLen≤dLen:=Nat.min_le_right _ _;omega
 have hrun:=run_copy_row (P:=P) w T T o.type E g off dLen dCap ad l.length sCap cs.toArray t (bvs (l.take dLen)) B.t (by rw[hi];simp[hsz]) hg hlen hsrc (by simpa using hfl) (xb0 _);unfold Oper.wp;simp[execOp,ho,resolve,invoke,builtin,hd,hs,hrun,Result.andThen];have:=h _ (hg.row (splice cs off (bvs (l.take dLen)))) (xdv w g _) (by simp);rw[← hlen] at this;show K (a.put o.dst _) _;simpa[goInt,splice,xae] using this
def Any(_:World):Prop:=True
theorem xid(w:World):Any w:=trivial
section
variable {P:Program}{ops:Array Oper}{Q:Exit→Act→World→Prop}{S':World→Prop}
theorem xoz{F F':Nat→Bool}:∀ (fuel:Nat)(listed:Array Bool)(a:Act)(w:World),wpF P ops Q S' F' fuel listed a w→wpF P ops Q Any F fuel listed a w
 | 0,_,_,_,h=>h
 | fuel+1,_,_,_,h=>⟨h.1,fun i hi=>wpOp_mono (fun a' w' h'=>⟨fun _=>trivial,xoz fuel _ a' w' h'.2⟩) (h.2 i hi)⟩
theorem rg_turn{F pl:List Nat}{g:Nat}{dn:List Nat}{rest:List (Nat×Oper)}{a:Act}{w:World}(S':World→Prop)(F':List Nat)(hp:xec ops F' pl dn (rest.map (·.1))=true)
  (h:wpT P ops Q S' F' pl g dn rest a w):wpT P ops Q Any F pl g dn rest a w:=by
 intro hr _ hQ;exact xoz _ _ _ _ (h hr hp hQ)
end
theorem xbj{P:Program}{w:World}{o:Oper}{a:Act}{Q:Exit→Act→World→Prop}{K:Act→World→Prop}{v:Value}(hr:(execOp a.eval o).run P w=.ok (.value v) w)(h:K (a.put o.dst v) w):o.wp P a w K Q:=by
 unfold Oper.wp;rw[hr];exact h
theorem xkg{w:World}{a:Act}{o:Oper}(x:Operand)(ho:o.op=.call { callee:=.builtin .len,args:=#[x],argTypes:=#[25] })(A:Option Addr)(n c:Nat)(hx:a.eval x=.slice A n c) :
  (execOp a.eval o).run prog w=.ok (.value (iV n)) w:=by
 unfold execOp;simp only[ho,resolve,invoke,builtin,Sem.run_bind,Sem.run_pure,Result.andThen_ok,List.map_toArray,qk,ql,hx];go_simp
def WrS(g M:Nat)(m x:LU)(w:World)(v:Value)(wr:World):Prop :=
 ∃ (d r b':LU)(A':Option Addr)(n' c':Nat),Hid (d++r=x)∧v=.slice A' n' c'∧r.length=n'∧(0<n'→Lft (· = g) wr A' n' c' r)∧StB (m++d) b'∧Blk wr g 324 (stC (hOf (m++d)) b' ((m++d).length%64) M)∧Fr (· = g) w wr
theorem rd_lft{w0 w:World}{A:Option Addr}{n c g:Nat}{x:LU}(hr:Rd w0 A (bvs x))(hl:x.length=n)(hcap:n≤c)(hmax:c≤maxLen)(h0:0<n)(hb:Bw w0 w)(hg:w0.heap.size≤g):Lft (· = g) w A n c x:=by
 refine⟨hl,hcap,hmax,hr.below hb,?_⟩;intro ad had e;obtain⟨ad',h1,h2⟩:=hr.at_ (k:=0) (by rw[xae];omega);rw[had] at h1;cases h1;have h3:=World.block_lt_of_cell? _ _ h2;have h4:(ad.add 0).block=ad.block:=by unfold Addr.add;split<;>rfl
 rw[h4] at h3;have h5:ad.block=g:=e;omega
theorem xe7(g:Nat)(m:LU)(A:Option Addr)(n c:Nat)(x:LU)(w:World)(h:St w g m)(hl:x.length=n)(hx:0<n→Lft (· = g) w A n c x)(hb:m.length+n≤4611686018427387904) :
  Calls prog 158 #[pG g,.slice A n c] w fun e w'=>e=.returned (iV n)∧St w' g (m++x)∧Fr (· = g) w w':=by
 obtain⟨b,hs,hblk⟩:=h;have C:=hZ (xr4 g w hblk.at0);have HHL:=xcu m;have hA:=hZ (hblk.atA HHL hs.1);have hset:=hblk.set_ 74 (.int .i64 ((m.length+n:Nat):Int));rw[xot HHL hs.1] at hset;have hlen:=hZ (xdm HHL hs.1 (n:=m.length%64) (all:=m.length));have HX:=hZ hl;have HM:Hid ((m++x).length=m.length+n):=hZ (by rw[List.length_append,hl]);have HS:=hZ hs;have hfr:Fr (· = g) w (w.setCell ⟨g,74,none⟩ (.int .i64 ((m.length+n:Nat):Int))):=Fr.setCell (p:=⟨g,74,none⟩) (Fr.refl (· = g) w) (.inl rfl) _;obtain⟨M,hMd⟩:∃ M,m.length+n=M:=⟨_,rfl⟩;rw[hMd] at hset HM hb hfr;have hM2:(m.length:Int)+(n:Int)=(M:Int):=by omega
 have HM2:=hZ hM2;clear hMd hM2 hs hl;go_enter func158,ntmps158
 go_upto_region 3 with(first
  | (go_at_call 215;with_reducible refine C.out.mono ?_;rintro e w1 ⟨rfl,rfl⟩))
 refine X14 ?_;refine xaa rfl _ (xm3 _ rfl g rfl) ?_;refine X6 ?_;refine xaa rfl _ (xc3 _ rfl _ _ rfl hA.out) ?_;refine X15 ?_;refine xaa rfl _ (xkg _ rfl A n c rfl) ?_;refine X6 ?_;refine xaa rfl _ (xa6 _ _ rfl _ _ ((M:Nat):Int) rfl rfl HM2.out (by omega)) ?_;refine X16 ?_;refine xaa rfl _ (xm3 _ rfl g rfl) ?_;refine X6 ?_;refine xd7 rfl one3 (.tmp 17) (.tmp 15) rfl g 74 324 _ (.int .i64 ((M:Nat):Int)) rfl rfl rfl hblk (by rw[hlen.out];decide) ?_;refine X17 ?_;clear hblk hA hlen;generalize World.setCell w _ _=w1 at *;go_wp2_with fail
 go_loopw [5] (fun v wr=>WrS g M m x w v wr) (fun v _=>xke v)
 case atStart=>exact⟨[],x,b,A,n,c,rfl,rfl,HX.out,fun h0=>(hx h0).fr hfr (fun k e=>e),by rw[List.append_nil];exact HS.out,by rw[List.append_nil];exact hset,hfr⟩
 case round =>
  clear hset hfr;obtain⟨d,r,b',A',n',c',hdr,rfl,hL,hr,hsb,hblk,hfr⟩:=hrel;obtain⟨N,hN⟩:∃ N,(m++d).length%64=N:=⟨_,rfl⟩;have hN64:N<64:=by omega
  have HN:=hZ hN;rw[hN] at hblk;clear hN;have HHD:=xcu (m++d);by_cases h0:0<n'
  ·have hr:=hr h0
   have hz0:(0:Int)<(n':Int):=by omega
   obtain⟨ad,rfl⟩:∃ ad,A'=some ad:=by
    obtain⟨ad,h,_⟩:=hr.rd.at_ (k:=0) (by rw[xae];omega);exact⟨ad,h⟩
   have hcn:=hZ (hblk.atN HHD hsb.1);obtain⟨k,hk⟩:∃ k,Nat.min n' (64 - N)=k:=⟨_,rfl⟩;have hk':min n' (64 - N)=k:=hk;have hkn:k≤n':=by omega
   have hkN:N+k≤64:=by omega
   have hk0:0<k:=by omega
   have hkc:N+k<64→k=n':=by omega
   have HK:=hZ hk;clear hk;obtain⟨y,hy⟩:∃ y,y=r.take (64 - N):=⟨_,rfl⟩
   have hyk:y=r.take k:=by
    rw[hy];by_cases hc:n'≤64 - N
    ·rw[List.take_of_length_le (by omega),List.take_of_length_le (by omega)]
    ·rw[show 64 - N=k by omega]
   have hyl:y.length=k:=by rw[hyk,List.length_take];omega
   have hcut:=hr.cut k hkn;have hdr':Hid ((d++y)++r.drop k=x):=hZ (by rw[List.append_assoc,hyk,List.take_append_drop];exact hdr.out);have hput:splice (stC (hOf (m++d)) b' N M) (9+N) (bvs y)=stC (hOf (m++d)) (splice b' N y) N M:=xtv HHD hsb.1 N y (by omega);have hbl:(splice b' N y).length=64:=by rw[xdg _ _ _ (by rw[hsb.1];omega)];exact hsb.1
   have hset:(stC (hOf (m++d)) (splice b' N y) N M).set 73 (.int .i64 ((N+k:Nat):Int))=stC (hOf (m++d)) (splice b' N y) (N+k) M:=xlz HHD hbl (N+k);have HPUT:=hZ hput;have HSET:=hZ hset;have HY:=hZ hy;have HYL:=hZ hyl;have HBL:=hZ hbl;have hfew:=hZ (fun(hlt:N+k<64)=>stb_few hsb y (by rw[HN.out,hyl];exact hlt));have hful:=hZ (fun(hlt:N+k=64)=>stb_full hsb y (by rw[HN.out,hyl];exact hlt));rw[HN.out] at hfew hful;have hcl:=hZ (xdm HHD hsb.1 (n:=N) (all:=M));have hcl2:=hZ (xdm HHD hbl (n:=N) (all:=M));clear hy hyk hyl hput hset hk' hL hbl;go_upto_region 6 with fail;refine rB (fun(W:World)=>World.cell? W ⟨g,73,none⟩=some (Value.int IntKind.i64 (N:Int))) [] [9] [0,1,2,3,4,5,6,7,8,9,10] 0 ?_;refine X4 ?_
   have hS:(fun(W:World)=>World.cell? W ⟨g,73,none⟩=some (Value.int IntKind.i64 (N:Int))) _:=hcn.out;refine X7 ?_;refine X18 ?_;refine X6 ?_;refine xab rfl rfl hS (fun W hW=>xr3 _ rfl g rfl) ?_;refine X9 ?_;refine X18 ?_;refine X6 ?_;refine xab rfl rfl hS (fun W hW=>xjl _ rfl g rfl) ?_;refine X6 ?_;refine xab rfl rfl hS (fun W hW=>xc3 _ rfl _ _ rfl hW) ?_;refine X6 ?_;refine xab rfl rfl hS (fun W hW=>xgy ia97 _ _ rfl g 9 N _ rfl rfl hN64) ?_;refine X6 ?_;refine X5 ?_;refine Xh ?_;intro K hK;refine xoy bt (.tmp 29) (.tmp 30) rfl g (9+N) (64 - N) (64 - N) ad n' c' rfl rfl 324 _ r hblk.drew hr.rd.drew hr.len (by rw[hcl.out];omega) k HK.out ?_;intro w2 hb2 hg2 hs2;rw[← HY.out,HPUT.out] at hb2;have hS1:=hb2.atN HHD HBL.out;refine hK _ _ (fun _=>hS1) ?_;clear hK;refine X6 ?_
   refine xab (v:=?_) rfl rfl hS1 ?_ ?_;rotate_left;(· intro W hW;(try subst hW);go_simp;try with_reducible rfl);refine Xb ?_;have hfr2:Fr (· = g) w w2:=hfr.drew.grown hg2 (by intro k hk;cases hk;exact .inl rfl);have hr2:Fr (· = g) wr w2:=(Fr.refl (· = g) wr).drew.grown hg2 (by intro k hk;cases hk;exact .inl rfl);have hc2:=hZ (hb2.atN HHD HBL.out);clear hg2 hs2 hblk hfr hcn;go_upto_region 7 with fail;refine X19 ?_;refine xaa rfl _ (xbt st24 _ _ rfl (some ad) n' c' k .i64 rfl rfl hkn) ?_;refine X1a ?_;go_upto_region 8 with fail;have hNk:(N:Int)+(k:Int)=((N+k:Nat):Int):=by omega
   have HNk:=hZ hNk;obtain⟨N2,hN2⟩:∃ N2,N+k=N2:=⟨_,rfl⟩;have HN2:=hZ hN2;rw[hN2] at hNk HNk hkN hkc HSET hfew hful;clear hN2 hNk;refine X14 ?_;refine xaa rfl _ (xjl _ rfl g rfl) ?_;refine X6 ?_;refine xaa rfl _ (xc3 _ rfl _ _ rfl hc2.out) ?_;refine X15 ?_;refine xaa rfl _ (xa6 _ _ rfl _ _ ((N2:Nat):Int) rfl rfl HNk.out (by omega)) ?_;refine X16 ?_;refine xaa rfl _ (xjl _ rfl g rfl) ?_;refine X6 ?_;refine xd7 rfl one3 (.tmp 42) (.tmp 40) rfl g 73 324 _ (.int .i64 ((N2:Nat):Int)) rfl rfl rfl hb2 (by rw[hcl2.out];decide) ?_;refine X17 ?_;have hb3:=hb2.set_ 73 (.int .i64 ((N2:Nat):Int));rw[HSET.out] at hb3;have hfr3:Fr (· = g) w2 (w2.setCell ⟨g,73,none⟩ (.int .i64 ((N2:Nat):Int))):=Fr.setCell (p:=⟨g,73,none⟩) (Fr.refl (· = g) w2) (.inl rfl) _
   generalize World.setCell w2 _ _=w3 at *;have hfr4:=hfr2.trans hfr3;have hr4:=hr2.trans hfr3;have hrest:=hcut.fr hr4 (fun k e=>e);have hc3:=hZ (hb3.atN HHD HBL.out);clear hfr2 hfr3 hr2 hb2 hcut hr hc2 hcl hcl2 HSET HPUT;by_cases hful':N2=64
   ·obtain⟨f1,f2,f3,f4⟩:=hful.out hful'
    subst hful';have C2:=fun u=>hZ (step_any (hOf (m++d)) (splice b' N y) u HHD (hOf_lt _) HBL.out)
    rw[← f2] at C2;have HF2:=hZ f2;have HH2:=hZ (xcu (m++d++y));have hcl3:=hZ (xdm HHD HBL.out (n:=64) (all:=M));have hcl4:=hZ (xdm HH2.out HBL.out (n:=64) (all:=M));have hdh:Hid (((stC (hOf (m++d)) (splice b' N y) 64 M).drop 1).take 8=wvs (hOf (m++d))):=hZ (stC_h HHD);have hdb:Hid (((stC (hOf (m++d)) (splice b' N y) 64 M).drop 9).take 64=bvs (splice b' N y)):=hZ (stC_b HHD HBL.out);have hph:Hid (splice (stC (hOf (m++d)) (splice b' N y) 64 M) 1 (wvs (hOf (m++d++y)))=stC (hOf (m++d++y)) (splice b' N y) 64 M):=hZ (xtu HHD _ HH2.out);have hp0:Hid ((stC (hOf (m++d++y)) (splice b' N y) 64 M).set 73 (.int .i64 ((0:Nat):Int))=stC (hOf (m++d++y)) (splice b' N y) 0 M):=hZ (xlz HH2.out HBL.out 0);have HSB:=hZ (f1 _ HBL.out);rw[HYL.out] at *;unfold arrW arr8 at C2
    go_upto_region 10 with(first
     | ((with_reducible refine xa4 46 ?_);refine xaa rfl _ (xc3 _ rfl _ _ rfl hc3.out) ?_))
    refine rB (Any) [] [10,11,12,13,14,15,16] [0,1,2,3,4,5,6,7,8,9,10,11,12,13,14,15,16] 0 ?_;refine X4 ?_;have hS0:(Any) _:=xid w3.drew;refine X1b ?_;refine X6 ?_;refine X1b ?_;refine X6 ?_;refine X1b ?_;refine X6 ?_;refine rg_turn (Below w3.heap.size w3) [13,14,15,16] (by kernel_rfl) ?_;have hS:Below w3.heap.size w3 w3.drew:=(Below.refl _ _).drew;refine X18 ?_;refine X6 ?_;refine xab rfl rfl hS (fun W hW=>xm2 _ rfl g rfl) ?_;refine X6 ?_;refine xab rfl rfl hS (fun W hW=>xbi at96 _ rfl g 1 324 _ (wvs (hOf (m++d))) rfl (hb3.below hW hb3.lt) hdh.out (by rw[xag];exact HHD)) ?_;refine X9 ?_;refine X18 ?_;refine X6 ?_;refine xab rfl rfl hS (fun W hW=>xr3 _ rfl g rfl) ?_;refine X6 ?_
    refine xab rfl rfl hS (fun W hW=>xbi at97 _ rfl g 9 324 _ (bvs (splice b' N y)) rfl (hb3.below hW hb3.lt) hdb.out (by rw[xae];exact HBL.out)) ?_;refine X6 ?_;refine xc0 rfl rfl ?_;intro K hK;go_simp;(with_reducible refine(C2 _).out.mono ?_);rintro e w5 ⟨rfl,hw5⟩;have hS1:Bw w3 w5:=Below.trans hS (hw5.mono (Below.size hS));refine hK _ _ (fun _=>hS1) ?_;clear hK;refine Xg ?_;intro K hK;refine xbj (xdn _ rfl _ rfl) ?_;refine hK _ _ (fun _=>hS1) ?_;clear hK;refine Xh ?_;intro K hK;refine xbj (xm2 _ rfl g rfl) ?_;refine hK _ _ (fun _=>hS1) ?_;clear hK;refine Xh ?_;intro K hK;refine xbe at96.i (.tmp 60) (.tmp 58) rfl g 1 324 _ (wvs (hOf (m++d++y))) rfl rfl (hb3.below hS1 hb3.lt) (by rw[xag];exact HH2.out) (by rw[hcl3.out];decide) (xed _) ?_;intro w6 hb6 hg6 hs6;rw[hph.out] at hb6
    refine Xi ?_;clear hK;refine Xg ?_;intro K hK;refine xbj (xdn _ rfl _ rfl) ?_;refine Xi ?_;clear hK;refine Xh ?_;intro K hK;refine xbj (xjl _ rfl g rfl) ?_;refine Xi ?_;clear hK;refine Xh ?_;intro K hK;refine xcn one3 _ _ rfl g 73 324 _ (iV 0) rfl rfl rfl hb6 (by rw[hcl4.out];decide) ?_;refine Xi ?_;clear hK;refine Xa ?_;have hb7:=hb6.set_ 73 (iV 0);rw[show(iV 0)=.int .i64 ((0:Nat):Int) from rfl,hp0.out] at hb7
    have hfr7:Fr (· = g) w3 (w6.setCell ⟨g,73,none⟩ (iV 0)) :=
     ((Fr.of_below hS1).grown hg6 (by intro k hk;cases hk;exact .inl rfl)).trans (Fr.setCell (p:=⟨g,73,none⟩) (Fr.refl (· = g) w6) (.inl rfl) _)
    go_wp2_with fail;go_roundw
    case rel =>
     refine⟨d++y,r.drop k,splice b' N y,_,_,_,hdr',rfl,hrest.len,fun _=>hrest.fr hfr7 (fun k e=>e),by rw[← List.append_assoc];exact HSB.out,?_,hfr4.trans hfr7⟩;rw[← List.append_assoc,f3];exact hb7
    case measure=>simp only[xke];omega
   ·obtain⟨f1,f2,f3⟩:=hfew.out (by omega)
    have hne:((N2:Int)==64)=false:=by simp;omega
    rw[HYL.out] at f3
    go_wp2_with (first
     | ((with_reducible refine xa4 46 ?_);refine xaa rfl _ (xc3 _ rfl _ _ rfl hc3.out) ?_))
    go_roundw
    case rel =>
     refine⟨d++y,r.drop k,splice b' N y,_,_,_,hdr',rfl,hrest.len,fun _=>hrest,by rw[← List.append_assoc];exact f1,?_,hfr4⟩;rw[← List.append_assoc,f2,f3,HN2.out];exact hb3
    case measure=>simp only[xke];omega
  ·obtain rfl:n'=0:=by omega
   obtain rfl:r = []:=List.eq_nil_of_length_eq_zero hL;obtain rfl:d=x:=by have h:=hdr.out;rwa [List.append_nil] at h
   clear hr;go_upto_region 11 with fail;refine X12 ?_;refine xaa rfl _ (xkg _ rfl A n c rfl) ?_;refine X1a ?_;go_wp2_with fail;go_ret;refine⟨rfl,⟨b',hsb,?_⟩,hfr⟩;rw[HN.out,HM.out];exact hblk
end Go.Proofs.YtkjjdgnkelchfaaGreat
