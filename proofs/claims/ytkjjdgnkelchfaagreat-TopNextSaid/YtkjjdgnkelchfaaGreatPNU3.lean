import Derived.Test.YtkjjdgnkelchfaaGreatPNU2
set_option linter.unusedSimpArgs false
set_option linter.unusedVariables false
set_option maxRecDepth 100000
set_option maxHeartbeats 16000000
namespace Go.Proofs.YtkjjdgnkelchfaaGreat
open Go Go.RowKit Go.Proofs.Tryz
theorem xfs{α:Type}(L:List α)(o:Nat):splice L o []=L:=by simp[splice]
theorem xgb{α:Type}(L:List α)(o:Nat)(v:α)(r:List α)(h:o<L.length):splice (L.set o v) (o+1) r=splice L o (v::r):=by
 unfold splice
 have e1:(L.set o v).take (o+1)=L.take o++[v]:=by
  rw[List.take_succ_eq_append_getElem (by simpa using h),List.take_set_of_le (Nat.le_refl _)];simp
 have e2:(L.set o v).drop (o+1+r.length)=L.drop (o+(v::r).length):=by
  rw[List.drop_set,if_pos (by omega)];congr 1
  simp;omega
 rw[e1,e2];simp
theorem xle{α:Type}(L:List α)(o:Nat)(vs:List α)(h:o+vs.length≤L.length):(splice L o vs).length=L.length:=length_splice L o vs h
section
variable {w w':World}{g:Nat}{t:TypeId}{cs:List Value}
theorem Blk.setCells(h:Blk w g t cs)(o:Nat)(vs:List Value)(hf:o+vs.length≤cs.length):Blk (w.setCells g o vs) g t (splice cs o vs):=by
 induction vs generalizing o w cs with
 | nil=>rw[xfs];exact h
 | cons v r ih =>
  rw[World.setCells];have h1:=ih (h.set_ o v) (o+1) (by simp at hf ⊢;omega);rwa [xgb _ _ _ _ (by simp at hf;omega)] at h1
theorem xfc(w:World)(g o:Nat)(vs:List Value):w.grownBy (w.setCells g o vs) (some g):=by
 induction vs generalizing o w with
 | nil=>exact World.grownBy.refl _ _
 | cons v r ih =>
  rw[World.setCells];exact(xdl w g o v).trans' (ih _ _)
theorem xlf(w:World)(g o:Nat)(vs:List Value):(w.setCells g o vs).heap.size=w.heap.size:=by
 induction vs generalizing o w with
 | nil=>rfl
 | cons v r ih=>rw[World.setCells,ih];simp
theorem Blk.range(h:Blk w g t cs)(o:Nat)(vs:List Value)(e:(cs.drop o).take vs.length=vs):w.rangeAt g o vs:=by
 intro j v hv;have hj:j<vs.length:=(List.getElem?_eq_some_iff.1 hv).1;rw[h.cell];rw[← e,List.getElem?_take_of_lt hj,List.getElem?_drop] at hv;exact hv
theorem Blk.there(h:Blk w g t cs)(o n:Nat)(hf:o+n≤cs.length):w.there g o n:=by
 intro j hj;refine⟨?_,h.free _⟩;rw[h.cell,List.getElem?_eq_getElem (by omega)];rfl
end
section
variable {P:Program}{T E:TypeId}{w:World}{ops:Array Oper}{rest:List Oper}{o:Oper}{a:Act}{Q:Exit→Act→World→Prop}
theorem xbi{n:Nat}(B:AT P T n)(x:Operand)(ho:o.op=.load T x)(g k t:Nat)(cs vs:List Value)(hx:a.eval x=.pointer (some ⟨g,k,none⟩))(hb:Blk w g t cs)(e:(cs.drop k).take n=vs)(hn:vs.length=n) :
  (execOp a.eval o).run P w=.ok (.value (.agg vs.toArray)) w:=by
 obtain⟨d,hu,hd⟩:=B.u;subst hn;unfold execOp;simp only[ho,hx,Instr.loadAt,Instr.sureAddr,Sem.run_bind,Sem.run_pure,Result.andThen_ok,run_loadVar_mid w g k T vs d (hb.range k vs e) hu (by clear hb;cases d<;>simp_all[TypeDesc.isRow]) B.i]
theorem xbe{n:Nat}(hi:(P.info? T).map (·.size)=some n){K:Act→World→Prop}(x y:Operand)(ho:o.op=.store T x y)(g k t:Nat)(cs vs:List Value)(hx:a.eval x=.pointer (some ⟨g,k,none⟩))(hy:a.eval y=.agg vs.toArray)
  (hb:Blk w g t cs) (hn:vs.length=n) (hf:k+n≤cs.length) (h1:∀ u∈vs,u.oneCell'=true)
  (h:∀ w',Blk w' g t (splice cs k vs)→w.grownBy w' (some g)→w'.heap.size=w.heap.size→K (a.put o.dst undef) w'):o.wp P a w K Q:=by
 subst hn;refine wp_store_mid T x y ho g k vs.toArray hx hy (by simpa using hb.there k vs.length hf) (by simpa using hi) (all_oneCell_toArray h1) ?_;exact h _ (hb.setCells k vs hf) (xfc w g k vs) (xlf w g k vs)
theorem xal{n:Nat}(hi:(P.info? T).map (·.size)=some n)(hgd:o.guard=none)(x y:Operand)(ho:o.op=.store T x y)(g k t:Nat)(cs vs:List Value)(hx:a.eval x=.pointer (some ⟨g,k,none⟩))(hy:a.eval y=.agg vs.toArray)
  (hb:Blk w g t cs) (hn:vs.length=n) (hf:k+n≤cs.length) (h1:∀ u∈vs,u.oneCell'=true)
  (h:∀ w',Blk w' g t (splice cs k vs)→w.grownBy w' (some g)→w'.heap.size=w.heap.size→wpList P ops Q rest (a.put o.dst undef) w'):wpList P ops Q (o::rest) a w :=
 wpList_plain hgd fun _ hK=>xbe hi x y ho g k t cs vs hx hy hb hn hf h1 fun w' e1 e2 e3=>hK _ _ (h w' e1 e2 e3)
theorem xjf{S:TypeId}(B:BT P T E S)(hgd:o.guard=none)(d s:Operand)(ho:o.op=.call { callee:=.builtin .copy,args:=#[d,s],argTypes:=#[T,T] })
  (g off dLen dCap:Nat) (A:Option Addr) (n sCap:Nat) (hd:a.eval d=.slice (some ⟨g,off,none⟩) dLen dCap) (hs:a.eval s=.slice A n sCap)
  (t:TypeId) (cs:List Value) (l:LU) (hg:Blk w g t cs) (hr:Rd w A (bvs l)) (hn:l.length=n) (hfit:off+dLen≤cs.length)
  (h:∀ w',Blk w' g t (splice cs off (bvs (l.take dLen)))→w.grownBy w' (some g)→w'.heap.size=w.heap.size→wpList P ops Q rest (a.put o.dst (iV (min n dLen:Nat))) w') :
  wpList P ops Q (o::rest) a w:=by
 obtain⟨i,hi,hz,hsz,hb⟩:=info_parts B.i;subst hn
 have hlen:(bvs (l.take dLen)).length=Nat.min l.length dLen:=by
  show _=min l.length dLen;simp[bvs];omega
 cases A with
 | none =>
  have hl0:l = []:=by
   rcases Nat.eq_zero_or_pos (bvs l).length with h0 | h0
   ·exact List.eq_nil_of_length_eq_zero (by simpa[bvs] using h0)
   ·obtain⟨ad,hh,_⟩:=hr h0;cases hh
  subst hl0;refine wpList_copy_nothing hgd d s T T ho E B.t (by rw[hi];simp[hsz]) _ _ dLen dCap _ sCap hd hs (by simp) ?_;have:=h w (by simpa[bvs,xfs] using hg) (World.grownBy.refl _ _) rfl;simpa[goInt] using this
 | some ad =>
  have hsrc:∀ j u,(bvs (l.take dLen))[j]? = some u→w.cell? (ad.add j)=some u:=by
   intro j u hu;by_cases h0:0<(bvs l).length
   ·obtain⟨ad',e,hc⟩:=hr h0
    cases e;apply hc
    have hj:j<(l.take dLen).length:=by
     have:=(List.getElem?_eq_some_iff.1 hu).1;rwa [xae] at this
    rw[xe5,List.getElem?_take_of_lt (by simp at hj;omega)] at hu;rw[xe5,hu]
   ·have:l = []:=List.eq_nil_of_length_eq_zero (by simpa[bvs] using h0)
    subst this;simp[bvs] at hu
  have hfl:off+(bvs (l.take dLen)).length≤cs.length:=by
   rw[hlen];have:Nat.min l.length dLen≤dLen:=Nat.min_le_right _ _;omega
  refine wpList_copy_own hgd d s T T ho E B.t (by rw[hi];simp[hsz]) g off dLen dCap ad _ sCap hd hs cs.toArray t hg (bvs (l.take dLen)) hlen hsrc (by simpa using hfl) (xb0 _) ?_;have:=h _ (hg.row (splice cs off (bvs (l.take dLen)))) (xdv w g _) (by simp);have e:(cs.toArray.toList.take off++(bvs (l.take dLen)++cs.toArray.toList.drop (off+(bvs (l.take dLen)).length)))=splice cs off (bvs (l.take dLen)):=rfl;rw[e,hlen];exact this
end
theorem xa5{P:Program}{T:TypeId}{n:Nat}{a:Act}{o:Oper}{w:World}(B:AT P T n)(x:Operand)(ho:o.op=.load T x)(ad:Addr)(vs:List Value)(hx:a.eval x=.pointer (some ad))(hr:Rd w (some ad) vs)(h0:0<n)(hn:vs.length=n) :
  (execOp a.eval o).run P w=.ok (.value (.agg vs.toArray)) w:=by
 obtain⟨d,hu,hd⟩:=B.u;have hi:=B.i;subst hn;obtain⟨ad',e,hc⟩:=hr h0;cases e;have hl:(loadCells ad vs.length).run P w=.ok vs.toArray w:=run_loadCells_list (P:=P) w ad vs hc
 have hv:(loadVar T ad).run P w=.ok (.agg vs.toArray) w:=by
  cases hq:P.info? T with
  | none=>simp[hq] at hi
  | some i =>
   have hs:i.size=vs.length:=by simpa[hq] using hi
   have hagg:(isAgg T).run P w=.ok true w:=by
    unfold isAgg;rw[Sem.run_bind,run_underlying hu w];cases d<;>simp_all
   simp[loadVar,Sem.run_bind,hagg,sizeOf,typeInfo,hq,hs,hl]
 unfold execOp;simp only[ho,hx,Instr.loadAt,Instr.sureAddr,Sem.run_bind,Sem.run_pure,Result.andThen_ok,hv]
theorem xac{P:Program}{ops:Array Oper}{rest:List Oper}{o:Oper}{a:Act}{w:World}{Q:Exit→Act→World→Prop}(hw:Region.wanted o (yielded ops a.tmps)=true)(v:Value)(hr:(execOp a.eval o).run P w=.ok (.value v) w)
  (h:wpList P ops Q rest (a.put o.dst v) w):wpList P ops Q (o::rest) a w:=by
 unfold wpList;rw[if_pos hw];left;unfold Oper.wp;rw[hr];exact h
theorem xlg{P:Program}{arr e:TypeId}{n:Nat}{a:Act}{o:Oper}{w:World}(ht:P.underlying arr=some (.array n e))(x:Operand)(ho:o.op=.sliceToArrayPointer arr x)(A:Option Addr)(len cap:Nat)(hx:a.eval x=.slice A len cap)(hn:n≤len) :
  (execOp a.eval o).run P w=.ok (.value (.pointer A)) w:=by
 unfold execOp;simp only[ho,hx,Sem.run_bind,run_arrayAt w arr e n A len cap ht hn,Result.andThen_ok,Sem.run_pure]
theorem xay{P:Program}{fn:Func}{p u:Tmp}{ty n:Nat}(h:fn.results=#[.cell p ty,.tmp u])(B:AT P ty n)(tmps:Array Value)(w:World)(g t:Nat)(vs:List Value)
  (hp:tmps.getD p undef=.pointer (some ⟨g,0,none⟩)) (hb:Blk w g t vs) (hn:vs.length=n):(results fn tmps).run P w=.ok (.tuple #[.agg vs.toArray,tmps.getD u undef]) w:=by
 obtain⟨d,hu,hd⟩:=B.u;rw[results_cell_tmp h,hp];simp only[asAddr,Sem.run_pure,Result.andThen_ok];rw[run_loadVar_row w g t ty vs.toArray (0,0) d hb hu (by clear hb;cases d<;>simp_all) (by rw[B.i];simp[hn])];simp only[Result.andThen_ok]
theorem xb8{P:Program}{fn:Func}{p:Tmp}{ty n:Nat}(h:fn.results=#[.cell p ty])(B:AT P ty n)(tmps:Array Value)(w:World)(g t:Nat)(vs:List Value)
  (hp:tmps.getD p undef=.pointer (some ⟨g,0,none⟩)) (hb:Blk w g t vs) (hn:vs.length=n):(results fn tmps).run P w=.ok (.agg vs.toArray) w:=by
 obtain⟨d,hu,hd⟩:=B.u;exact results_cell_row h tmps w g t vs.toArray (0,0) d hp hb hu (by clear hb;cases d<;>simp_all) (by rw[B.i];simp[hn])
theorem xhc(x s:Nat):IntKind.u32.wrap ((x:Int)*2^s)=((x*2^s%4294967296:Nat):Int):=by
 rw[IntKind.wrap_u32'];have:((2^s:Nat):Int)=(2:Int)^s:=by simp
 rw[← this];omega
theorem xoq(x s:Nat):(x:Int) / 2^s=((x / 2^s:Nat):Int):=by
 have:((2^s:Nat):Int)=(2:Int)^s:=by simp
 rw[← this];omega
theorem rotr_int(x s:Nat)(hx:x<4294967296)(hs:s≤32) :
  bits .or .u32 (IntKind.u32.wrap ((x:Int)*2^s)) ((x:Int) / 2^(32 - s))=((rotr x (32 - s):Nat):Int):=by
 rw[xhc,xoq,u32_or_nat _ _ (Nat.mod_lt _ (by omega)) (Nat.lt_of_le_of_lt (Nat.div_le_self _ _) hx)];unfold rotr;rw[Nat.or_comm,show 32 - (32 - s)=s by omega];rfl
theorem rotl_any(x s:Nat)(k:Int)(w:World)(hx:x<4294967296)(hb:bits .and .u64 (IntKind.u64.wrap k) 31=(s:Int))(hs:s≤32) :
  Calls prog 251 #[.int .u32 (x:Int),iV k] w fun e w'=>e=.returned (.int .u32 ((rotr x (32 - s):Nat):Int))∧w=w':=by
 have h0:(0:Int)≤(s:Int):=by omega
 have h1:(s:Int)≤32:=by omega
 have h2:IntKind.u64.wrap (32 - (s:Int))=32 - (s:Int):=by
  rw[show(32:Int) - s=((32 - s:Nat):Int) by omega];simp[IntKind.wrap,IntKind.bits,IntKind.signed];omega
 have h3:(0:Int)≤32 - (s:Int):=by omega
 have h4:32 - (s:Int)≤32:=by omega
 have h5:((32:Int) - (s:Int)).toNat=32 - s:=by omega
 have HH:=hZ hx;clear hx hs;go_enter func251,ntmps251;go_wp2_with fail;go_ret;refine⟨?_,rfl⟩;have e:=rotr_int x s HH.out (by omega);simpa[h5,IntKind.wrap_u32'] using e
theorem xcw(x s m:Nat)(n:Int)(w:World)(hx:x<4294967296)(hb:bits .and .u64 (IntKind.u64.wrap (wrap64 (-n))) 31=(s:Int))(hs:s≤32)(hm:32 - s=m) :
  Calls prog 246 #[.int .u32 (x:Int),iV n] w fun e w'=>e=.returned (.int .u32 ((rotr x m:Nat):Int))∧w=w':=by
 subst hm;have C:=fun u=>hZ (rotl_any x s (wrap64 (-n)) u hx hb hs);clear hx hb
 go_enter func246,ntmps246;go_wp2_with fail;(with_reducible refine(C _).out.mono ?_);rintro e w1 ⟨rfl,rfl⟩;go_wp2_with fail;go_ret;exact⟨rfl,rfl⟩
def wv(n:Nat):Value:=.int .u32 (n:Int)
def wvs(l:List Nat):List Value:=l.map wv
theorem xag(l:List Nat):(wvs l).length=l.length:=by simp[wvs]
theorem xr2(l:List Nat)(i:Nat):(wvs l)[i]? = (l[i]?).map wv:=by simp[wvs]
theorem xed(l:List Nat):∀ u∈wvs l,u.oneCell'=true:=by
 intro u hu;obtain⟨n,_,rfl⟩:=List.mem_map.1 hu;rfl
theorem wvs_set(l:List Nat)(i n:Nat):(wvs l).set i (wv n)=wvs (l.set i n):=by simp[wvs,List.map_set]
def arrW(l:List Nat):Value:=.agg (wvs l).toArray
theorem xa1{a b:Nat}(ha:a<4294967296)(hb:b<4294967296):a ||| b<4294967296:=Nat.or_lt_two_pow (n:=32) ha hb
theorem xat(a:Nat):4294967295 - a<4294967296:=by omega
theorem xau(a:Nat):a%4294967296<4294967296:=Nat.mod_lt _ (by decide)
theorem xbf(x:UInt8):x.toNat<4294967296:=by have:=x.toNat_lt;omega
theorem ones_xor(m:Nat)(hm:m<4294967296):4294967295 ^^^ m=4294967295 - m:=by
 apply Nat.eq_of_testBit_eq;intro i;have h1:(4294967295:Nat).testBit i=decide (i<32):=Nat.testBit_two_pow_sub_one 32 i
 have h2:(4294967295 - m).testBit i=(decide (i<32)&&!m.testBit i):=by
  have:=Nat.testBit_two_pow_sub_succ (n:=32) hm i;rw[← this];congr 1;omega
 rw[Nat.testBit_xor,h1,h2];by_cases hi:i<32
 ·simp[hi]
 ·have:m.testBit i=false:=Nat.testBit_lt_two_pow (Nat.lt_of_lt_of_le hm (show 2^32≤2^i from Nat.pow_le_pow_right (by omega) (by omega)))
  simp[hi,this]
section
variable {P:Program}{w:World}{a:Act}{o:Oper}{t t':TypeId}
theorem xcr(x y:Operand)(ho:o.op=.binOp .xor t x y t')(m n:Nat)(hx:a.eval x=.int .u32 (m:Int))(hy:a.eval y=.int .u32 (n:Int))(hm:m<4294967296)(hn:n<4294967296) :
  (execOp a.eval o).run P w=.ok (.value (.int .u32 ((m ^^^ n:Nat):Int))) w:=by
 unfold execOp;simp only[ho,hx,hy];go_simp;rw[u32_xor_nat _ _ hm hn]
theorem xfd(x y:Operand)(ho:o.op=.binOp .and t x y t')(m n:Nat)(hx:a.eval x=.int .u32 (m:Int))(hy:a.eval y=.int .u32 (n:Int))(hm:m<4294967296)(hn:n<4294967296) :
  (execOp a.eval o).run P w=.ok (.value (.int .u32 ((m &&& n:Nat):Int))) w:=by
 unfold execOp;simp only[ho,hx,hy];go_simp;rw[u32_and_nat _ _ hm hn]
theorem xkb(x y:Operand)(ho:o.op=.binOp .or t x y t')(m n:Nat)(hx:a.eval x=.int .u32 (m:Int))(hy:a.eval y=.int .u32 (n:Int))(hm:m<4294967296)(hn:n<4294967296) :
  (execOp a.eval o).run P w=.ok (.value (.int .u32 ((m ||| n:Nat):Int))) w:=by
 unfold execOp;simp only[ho,hx,hy];go_simp;rw[u32_or_nat _ _ hm hn]
theorem xfe(x y:Operand)(ho:o.op=.binOp .add t x y t')(m n:Nat)(hx:a.eval x=.int .u32 (m:Int))(hy:a.eval y=.int .u32 (n:Int)) :
  (execOp a.eval o).run P w=.ok (.value (.int .u32 ((ad m n:Nat):Int))) w:=by
 unfold execOp;simp only[ho,hx,hy];go_simp
 have e:IntKind.u32.wrap ((m:Int)+n)=((ad m n:Nat):Int):=by
  rw[IntKind.wrap_u32'];unfold ad;omega
 simpa[IntKind.wrap_u32'] using e
theorem xtr(x:Operand)(ho:o.op=.unOp .xor t x)(m:Nat)(hx:a.eval x=.int .u32 (m:Int))(hm:m<4294967296) :
  (execOp a.eval o).run P w=.ok (.value (.int .u32 ((4294967295 - m:Nat):Int))) w:=by
 unfold execOp;simp only[ho,hx];go_simp;have e:=u32_xor_nat 4294967295 m (by decide) hm;rw[ones_xor m hm] at e;exact e
theorem xly(x y:Operand)(ho:o.op=.binOp .shr t x y t')(m s:Nat)(k:IntKind)(hx:a.eval x=.int .u32 (m:Int))(hy:a.eval y=.int k (s:Int))(hs:s≤32)(d:Nat)(hd:2^s=d) :
  (execOp a.eval o).run P w=.ok (.value (.int .u32 ((m / d:Nat):Int))) w:=by
 subst hd;have h0:(0:Int)≤(s:Int):=by omega
 have h1:(s:Int)≤32:=by omega
 unfold execOp;simp only[ho,hx,hy];go_simp
theorem xia(x y:Operand)(ho:o.op=.binOp .shl t x y t')(m s:Nat)(k:IntKind)(hx:a.eval x=.int .u32 (m:Int))(hy:a.eval y=.int k (s:Int))(hs:s≤32)(d:Nat)(hd:2^s=d) :
  (execOp a.eval o).run P w=.ok (.value (.int .u32 ((m*d%4294967296:Nat):Int))) w:=by
 subst hd;have h0:(0:Int)≤(s:Int):=by omega
 have h1:(s:Int)≤32:=by omega
 have e:=xhc m s;unfold execOp;simp only[ho,hx,hy];go_simp
 try simpa[IntKind.wrap_u32'] using e
theorem xc2(parts:Array (Nat×Operand))(ho:o.op=.build t parts)(cells:Array Value)(h:P.built t (parts.map fun(i,x)=>(i,a.eval x)).toList=some cells) :
  (execOp a.eval o).run P w=.ok (.value (.agg cells)) w:=by
 unfold execOp;simp only[ho,Sem.run_bind,run_build w t _ cells h,Result.andThen_ok];rfl
end
section
variable {P:Program}{w:World}{a:Act}{o:Oper}{t t':TypeId}
theorem xb6{d:TypeDesc}(hu:P.underlying t=some d)(hd:d.isRow=false)(x:Operand)(ho:o.op=.load t x)(ad:Addr)(v:Value)(hx:a.eval x=.pointer (some ad))(hc:w.cell? ad=some v) :
  (execOp a.eval o).run P w=.ok (.value v) w:=by
 have hagg:(isAgg t).run P w=.ok false w:=by
  unfold isAgg;rw[Sem.run_bind,run_underlying hu w];cases d<;>simp_all[TypeDesc.isRow]
 unfold execOp;simp only[ho,hx,Instr.loadAt,Instr.sureAddr,Sem.run_bind,Sem.run_pure,Result.andThen_ok,loadVar,hagg,Bool.false_eq_true,if_false,run_load,hc]
theorem xbb(hu:∃ d,P.underlying t=some d∧d.isRow=false)(x:Operand)(ho:o.op=.load t x)(g i t1:Nat)(l:List Nat)(n:Nat)(hx:a.eval x=.pointer (some ⟨g,i,none⟩))(hb:Blk w g t1 (wvs l))(e:l[i]? = some n) :
  (execOp a.eval o).run P w=.ok (.value (.int .u32 (n:Int))) w:=by
 have hc:w.cell? ⟨g,i,none⟩=some (.int .u32 (n:Int)):=by rw[hb.cell,xr2,e];rfl
 obtain⟨d,hu,hd⟩:=hu;exact xb6 hu hd x ho _ _ hx hc
end
theorem w94:∃ d,prog.underlying 306=some d∧d.isRow=false:=⟨_,underlying306,rfl⟩
theorem at96:AT prog 320 8:=⟨⟨_,underlying320,rfl⟩,by kernel_rfl⟩
theorem at97:AT prog 322 64:=⟨⟨_,underlying322,rfl⟩,by kernel_rfl⟩
theorem at176:AT prog 356 64:=⟨⟨_,underlying356,rfl⟩,by kernel_rfl⟩
def zw(n:Nat):List Nat:=List.replicate n 0
theorem xch(n:Nat):(zw n).length=n:=by simp[zw]
theorem xbx{α:Type}(L vs:List α)(h:L.length=vs.length):splice L 0 vs=vs:=by
 unfold splice;rw[List.drop_eq_nil_of_le (by omega)];simp
theorem xts(w:World):Calls prog 214 #[] w (oB w (arrW shaH)):=by
 have hb:Blk (w.alloc (.cells (wvs (zw 8)).toArray 320)) w.heap.size 320 (wvs (zw 8)):=Blk.new _ _ _;have hw:Below w.heap.size w (w.alloc (.cells (wvs (zw 8)).toArray 320)):=(Below.refl _ _).alloc (Nat.le_refl _) _;unfold arrW;go_enter func214,ntmps214
 go_wp2_with (first
  | ((with_reducible refine xa4 1 ?_);refine xaa rfl _ (xc2 _ rfl (wvs shaH).toArray (by kernel_rfl)) ?_)
  | ((with_reducible refine xeg (Op.store 320 (.tmp 0) (.tmp 1)) ?_);refine xal at96.i rfl (.tmp 0) (.tmp 1) rfl w.heap.size 0 320 (wvs (zw 8)) (wvs shaH) rfl rfl hb (by rw[xag];rfl) (by rw[xag];decide) (xed _) ?_;intro w1 hb1 hg1 hs1))
 try simp only[Exit.inBlock,Exit.then]
 rw[xbx _ _ (by rw[xag,xag];rfl)] at hb1;refine bodyPost_ret (xb8 rfl at96 _ _ w.heap.size 320 (wvs shaH) rfl hb1 (by rw[xag];rfl)) rfl ?_;exact⟨rfl,hw.grown hg1 hw.size (by intro k hk;cases hk;omega)⟩
theorem xlh(w:World):Calls prog 245 #[] w (oB w (arrW shaK)):=by
 have hb:Blk (w.alloc (.cells (wvs (zw 64)).toArray 356)) w.heap.size 356 (wvs (zw 64)):=Blk.new _ _ _;have hw:Below w.heap.size w (w.alloc (.cells (wvs (zw 64)).toArray 356)):=(Below.refl _ _).alloc (Nat.le_refl _) _;unfold arrW;go_enter func245,ntmps245
 go_wp2_with (first
  | ((with_reducible refine xa4 1 ?_);refine xaa rfl _ (xc2 _ rfl (wvs shaK).toArray (by kernel_rfl)) ?_)
  | ((with_reducible refine xeg (Op.store 356 (.tmp 0) (.tmp 1)) ?_);refine xal at176.i rfl (.tmp 0) (.tmp 1) rfl w.heap.size 0 356 (wvs (zw 64)) (wvs shaK) rfl rfl hb (by rw[xag];rfl) (by rw[xag,xch];decide) (xed _) ?_;intro w1 hb1 hg1 hs1))
 try simp only[Exit.inBlock,Exit.then]
 rw[xbx _ _ (by rw[xag,xag];rfl)] at hb1;refine bodyPost_ret (xb8 rfl at176 _ _ w.heap.size 356 (wvs shaK) rfl hb1 (by rw[xag];rfl)) rfl ?_;exact⟨rfl,hw.grown hg1 hw.size (by intro k hk;cases hk;omega)⟩
structure IA (P:Program)(T n:Nat):Prop where
 u:∃ e,P.underlying T=some (.array n e)∧(P.info? e).map (·.size)=some 1
theorem ia96:IA prog 320 8:=⟨⟨_,underlying320,by kernel_rfl⟩⟩
theorem ia97:IA prog 322 64:=⟨⟨_,underlying322,by kernel_rfl⟩⟩
theorem ia176:IA prog 356 64:=⟨⟨_,underlying356,by kernel_rfl⟩⟩
theorem xei(g o i:Nat):(⟨g,o,none⟩:Addr).add i=⟨g,o+i,none⟩:=by
 unfold Addr.add
 split
 ·next h=>subst h;rfl
 ·rfl
section
variable {P:Program}{w:World}{a:Act}{o:Oper}{t t':TypeId}
theorem exec_ia{n:Nat}(B:IA P t n)(x y:Operand)(ho:o.op=.indexAddr t x y)(g off i:Nat)(k:IntKind)(hx:a.eval x=.pointer (some ⟨g,off,none⟩))(hy:a.eval y=.int k (i:Int))(hi:i<n) :
  (execOp a.eval o).run P w=.ok (.value (.pointer (some ⟨g,off+i,none⟩))) w:=by
 obtain⟨e,hu,hs⟩:=B.u;have he:P.elem t=e:=by simp[Program.elem,hu]
 have hl:P.arrayLen t=n:=by simp[Program.arrayLen,hu]
 have hz:(sizeOf e).run P w=.ok 1 w:=by
  cases hq:P.info? e with
  | none=>simp[hq] at hs
  | some j =>
   simp[hq] at hs;simp[sizeOf,typeInfo,hq,hs]
 have hr:=run_indexAt_array (P:=P) w t ⟨g,off,none⟩ k (i:Int) (by rw[he,hl];exact hu);rw[hl,he,if_pos (by omega),hz] at hr;simp only[Result.andThen_ok,Int.toNat_natCast,Nat.mul_one,xei] at hr;unfold execOp;simp only[ho,hx,hy,Sem.run_bind,hr,Result.andThen_ok,Sem.run_pure]
theorem xcd{n:Nat}(B:IA P t n)(x y:Operand)(ho:o.op=.indexAddr t x y)(g i:Nat)(k:IntKind)(hx:a.eval x=.pointer (some ⟨g,0,none⟩))(hy:a.eval y=.int k (i:Int))(hi:i<n) :
  (execOp a.eval o).run P w=.ok (.value (.pointer (some ⟨g,i,none⟩))) w:=by
 have:=exec_ia (w:=w) B x y ho g 0 i k hx hy hi;rwa [Nat.zero_add] at this
theorem xa6(x y:Operand)(ho:o.op=.binOp .add t x y t')(m n r:Int)(hx:a.eval x=iV m)(hy:a.eval y=iV n)(hr:m+n=r)(h1 : -9223372036854775808≤r∧r≤9223372036854775807) :
  (execOp a.eval o).run P w=.ok (.value (iV r)) w:=by
 subst hr;have e:IntKind.i64.wrap (m+n)=m+n:=IntWalk.i64_in _ h1;unfold execOp;simp only[ho,hx,hy];go_simp
 try first | exact congrArg (fun z=>Result.ok (Next.value (iV z)) w) e | exact e
theorem xa2(x y:Operand)(ho:o.op=.binOp .sub t x y t')(m n r:Int)(hx:a.eval x=iV m)(hy:a.eval y=iV n)(hr:m - n=r)(h1 : -9223372036854775808≤r∧r≤9223372036854775807) :
  (execOp a.eval o).run P w=.ok (.value (iV r)) w:=by
 subst hr;have e:IntKind.i64.wrap (m - n)=m - n:=IntWalk.i64_in _ h1;unfold execOp;simp only[ho,hx,hy];go_simp
 try first | exact congrArg (fun z=>Result.ok (Next.value (iV z)) w) e | exact e
theorem xib(x y:Operand)(ho:o.op=.binOp .mul t x y t')(m n r:Int)(hx:a.eval x=iV m)(hy:a.eval y=iV n)(hr:m*n=r)(h1 : -9223372036854775808≤r∧r≤9223372036854775807) :
  (execOp a.eval o).run P w=.ok (.value (iV r)) w:=by
 subst hr;have e:IntKind.i64.wrap (m*n)=m*n:=IntWalk.i64_in _ h1;unfold execOp;simp only[ho,hx,hy];go_simp
 try first | exact congrArg (fun z=>Result.ok (Next.value (iV z)) w) e | exact e
theorem xic(x:Operand)(ho:o.op=.move x):(execOp a.eval o).run P w=.ok (.value (a.eval x)) w:=by
 unfold execOp;simp only[ho];rfl
theorem xi4(x:Operand)(ho:o.op=.assign x):(execOp a.eval o).run P w=.ok (.value (a.eval x)) w:=by
 unfold execOp;simp only[ho];rfl
theorem xft(hu:∃ d,P.underlying t=some d∧d.isRow=false)(x:Operand)(ho:o.op=.load t x)(g i t1:Nat)(l:LU)(n:UInt8)(hx:a.eval x=.pointer (some ⟨g,i,none⟩))(hb:Blk w g t1 (bvs l))(e:l[i]? = some n) :
  (execOp a.eval o).run P w=.ok (.value (.int .u8 (n.toNat:Int))) w:=by
 have hc:w.cell? ⟨g,i,none⟩=some (.int .u8 (n.toNat:Int)):=by rw[hb.cell,xe5,e];rfl
 obtain⟨d,hu,hd⟩:=hu;exact xb6 hu hd x ho _ _ hx hc
theorem xgn{d:TypeDesc}(hs:P.underlying t=some d)(hd:P.underlying t'=some (.int .u32))(x:Operand)(ho:o.op=.convert t t' x)(n:Nat)(hx:a.eval x=.int .u8 (n:Int))(hn:n<4294967296) :
  (execOp a.eval o).run P w=.ok (.value (.int .u32 (n:Int))) w:=by
 have hk:P.intKind t'=.u32:=by simp[Program.intKind,hd]
 have hr:=run_convert_int (P:=P) w t t' .u8 (n:Int) (by rw[hs];rfl) (by rw[hk];exact hd);have e:IntKind.u32.wrap (n:Int)=(n:Int):=by rw[IntKind.wrap_u32'];omega
 rw[hk,e] at hr;unfold execOp;simp only[ho,hx,Sem.run_bind,hr,Result.andThen_ok,Sem.run_pure]
theorem xcn{K:Act→World→Prop}{Q:Exit→Act→World→Prop}(hi:(P.info? t).map (·.size)=some 1)(x y:Operand)(ho:o.op=.store t x y)(g i t1:Nat)(cs:List Value)(v:Value)
  (hx:a.eval x=.pointer (some ⟨g,i,none⟩)) (hy:a.eval y=v) (h1:v.oneCell'=true) (hb:Blk w g t1 cs) (hf:i<cs.length)
  (h:K (a.put o.dst undef) (w.setCell ⟨g,i,none⟩ v)):o.wp P a w K Q:=by
 have hv:v.cells=#[v]:=by cases v<;>first | rfl | (simp[Value.oneCell'] at h1)
 have hc:w.cell? ⟨g,i,none⟩=some cs[i]:=by rw[hb.cell,List.getElem?_eq_getElem hf]
 have hfr:w.frozen? ⟨g,i,none⟩=false:=hb.free i
 have e:(Instr.storeAt t (.pointer (some ⟨g,i,none⟩)) v).run P w=.ok () (w.setCell ⟨g,i,none⟩ v):=by
  cases hq:P.info? t with
  | none=>simp[hq] at hi
  | some j =>
   have hs:j.size=1:=by simpa[hq] using hi
   have hst:(store (⟨g,i,none⟩:Addr) v).run P w=.ok () (w.setCell ⟨g,i,none⟩ v):=by rw[run_store P w _ v _ h1,hc,hfr];rfl
   simp[Instr.storeAt,Instr.sureAddr,storeVar,sizeOf,typeInfo,hq,hs,hv,storeCells,Addr.add,hst]
 unfold Oper.wp execOp;simp only[ho,hx,hy,Sem.run_bind,Sem.run_pure,Result.andThen_ok,e];exact h
theorem xd7{ops:Array Oper}{rest:List Oper}{Q:Exit→Act→World→Prop}(hgd:o.guard=none)(hi:(P.info? t).map (·.size)=some 1)(x y:Operand)(ho:o.op=.store t x y)(g i t1:Nat)(cs:List Value)(v:Value)
  (hx:a.eval x=.pointer (some ⟨g,i,none⟩)) (hy:a.eval y=v) (h1:v.oneCell'=true) (hb:Blk w g t1 cs) (hf:i<cs.length)
  (h:wpList P ops Q rest (a.put o.dst undef) (w.setCell ⟨g,i,none⟩ v)):wpList P ops Q (o::rest) a w :=
 wpList_plain hgd fun _ hK=>xcn hi x y ho g i t1 cs v hx hy h1 hb hf (hK _ _ h)
theorem Blk.setw{g t1 i n:Nat}{l:List Nat}(hb:Blk w g t1 (wvs l)):Blk (w.setCell ⟨g,i,none⟩ (.int .u32 (n:Int))) g t1 (wvs (l.set i n)):=by
 rw[← wvs_set];exact hb.set_ i (wv n)
end
theorem one94:(prog.info? 306).map (·.size)=some 1:=by kernel_rfl
theorem w5:∃ d,prog.underlying 5=some d∧d.isRow=false:=⟨_,underlying5,rfl⟩
def zipT(h v:List Nat)(i:Nat):List Nat:=(List.zipWith ad h v).take i++h.drop i
theorem xtt(h v:List Nat):zipT h v 0=h:=by simp[zipT]
theorem zipT_end(h v:List Nat)(hl:h.length=8):zipT h v 8=List.zipWith ad h v:=by
 unfold zipT;rw[List.drop_eq_nil_of_le (by omega),List.append_nil,List.take_of_length_le (by simp;omega)]
theorem zipT_get(h v:List Nat)(i:Nat)(hl:h.length=8)(hv:v.length=8)(hi:i<8):(zipT h v i)[i]? = some (h.getD i 0):=by
 unfold zipT;have hz:(List.take i (List.zipWith ad h v)).length=i:=by simp[hl,hv];omega
 rw[List.getElem?_append_right (by omega),hz,Nat.sub_self,List.getElem?_drop,Nat.add_zero,List.getD_eq_getElem?_getD,List.getElem?_eq_getElem (by omega)];rfl
theorem zipT_set(h v:List Nat)(i:Nat)(hl:h.length=8)(hv:v.length=8)(hi:i<8):(zipT h v i).set i (ad (h.getD i 0) (v.getD i 0))=zipT h v (i+1):=by
 unfold zipT;have hz:(List.take i (List.zipWith ad h v)).length=i:=by simp[hl,hv];omega
 have hz2:i<(List.zipWith ad h v).length:=by simp[hl,hv];omega
 have g1:h.getD i 0=h[i]:=by rw[List.getD_eq_getElem?_getD,List.getElem?_eq_getElem (by omega),Option.getD_some]
 have g2:v.getD i 0=v[i]:=by rw[List.getD_eq_getElem?_getD,List.getElem?_eq_getElem (by omega),Option.getD_some]
 rw[List.set_append_right _ _ (by omega),hz,Nat.sub_self,List.drop_eq_getElem_cons (show i<h.length by omega),List.set_cons_zero,List.take_succ_eq_append_getElem hz2,List.getElem_zipWith,g1,g2,List.append_assoc];rfl
theorem xos(h v:List Nat)(i:Nat)(hl:h.length=8)(hv:v.length=8)(hi:i≤8):(zipT h v i).length=8:=by
 simp[zipT,hl,hv];omega
theorem xgo(l:List Nat)(i:Nat)(h:i<l.length):l[i]? = some (l.getD i 0):=by
 rw[List.getD_eq_getElem?_getD,List.getElem?_eq_getElem h];rfl
def stC(h:List Nat)(b:LU)(n all:Nat):List Value:=.bool true::(wvs h++(bvs b++[iV n,iV all]))
section
variable {h:List Nat}{b:LU}{n all:Nat}
theorem xdm(hl:h.length=8)(hb:b.length=64):(stC h b n all).length=75:=by simp[stC,xag,xae,hl,hb]
theorem stC_n(hl:h.length=8)(hb:b.length=64):(stC h b n all)[73]? = some (iV n):=by
 unfold stC;rw[List.getElem?_cons_succ,List.getElem?_append_right (by rw[xag];omega),xag,hl,List.getElem?_append_right (by rw[xae];omega),xae,hb];rfl
theorem stC_all(hl:h.length=8)(hb:b.length=64):(stC h b n all)[74]? = some (iV all):=by
 unfold stC;rw[List.getElem?_cons_succ,List.getElem?_append_right (by rw[xag];omega),xag,hl,List.getElem?_append_right (by rw[xae];omega),xae,hb];rfl
theorem xlz(hl:h.length=8)(hb:b.length=64)(k:Nat):(stC h b n all).set 73 (iV k)=stC h b k all:=by
 unfold stC;rw[List.set_cons_succ,List.set_append_right _ _ (by rw[xag];omega),xag,hl,List.set_append_right _ _ (by rw[xae];omega),xae,hb];rfl
theorem xot(hl:h.length=8)(hb:b.length=64)(k:Nat):(stC h b n all).set 74 (iV k)=stC h b n k:=by
 unfold stC;rw[List.set_cons_succ,List.set_append_right _ _ (by rw[xag];omega),xag,hl,List.set_append_right _ _ (by rw[xae];omega),xae,hb];rfl
theorem stC_h(hl:h.length=8):((stC h b n all).drop 1).take 8=wvs h:=by
 unfold stC;rw[List.drop_succ_cons,List.drop_zero,List.take_append_of_le_length (by rw[xag];omega),List.take_of_length_le (by rw[xag];omega)]
theorem stC_b(hl:h.length=8)(hb:b.length=64):((stC h b n all).drop 9).take 64=bvs b:=by
 unfold stC;rw[List.drop_succ_cons,List.drop_append_of_le_length (by rw[xag];omega),List.drop_eq_nil_of_le (by rw[xag];omega),List.nil_append,List.take_append_of_le_length (by rw[xae];omega),List.take_of_length_le (by rw[xae];omega)]
theorem xtu(hl:h.length=8)(h':List Nat)(hl':h'.length=8):splice (stC h b n all) 1 (wvs h')=stC h' b n all:=by
 unfold stC splice;rw[List.take_succ_cons,List.take_zero,xag,hl',List.drop_succ_cons,List.drop_append_of_le_length (by rw[xag];omega),List.drop_eq_nil_of_le (by rw[xag];omega)];rfl
theorem xtv(hl:h.length=8)(hb:b.length=64)(k:Nat)(x:LU)(hk:k+x.length≤64):splice (stC h b n all) (9+k) (bvs x)=stC h (splice b k x) n all:=by
 unfold stC splice;have e1:(bvs b).take k=bvs (b.take k):=by simp[bvs,List.map_take]
 have e2:(bvs b).drop (k+x.length)=bvs (b.drop (k+x.length)):=by simp[bvs,List.map_drop]
 rw[show 9+k=(8+k)+1 by omega,List.take_succ_cons,xae,show 8+k+1+x.length=(8+k+x.length)+1 by omega,List.drop_succ_cons];rw[List.take_append,List.drop_append,xag,hl,List.take_of_length_le (by rw[xag];omega),show List.drop (8+k+x.length) (wvs h) = [] from List.drop_eq_nil_of_le (by rw[xag];omega),List.nil_append];rw[show 8+k - 8=k by omega,show 8+k+x.length - 8=k+x.length by omega,List.take_append_of_le_length (by rw[xae];omega),List.drop_append_of_le_length (by rw[xae];omega),e1,e2];simp only[xd6,qo,qm]
end
def StB(m b:LU):Prop:=b.length=64∧b.take (m.length%64)=xga m
theorem xdg(b x:LU)(k:Nat)(h:k+x.length≤b.length):(splice b k x).length=b.length:=xle b k x h
theorem stb_few{m b:LU}(h:StB m b)(x:LU)(hx:m.length%64+x.length<64) :
  StB (m++x) (splice b (m.length%64) x)∧hOf (m++x)=hOf m∧(m++x).length%64=m.length%64+x.length:=by
 obtain⟨hb,ht⟩:=h;obtain⟨f1,f2⟩:=more_few m x hx;have e:(m++x).length%64=m.length%64+x.length:=by rw[List.length_append];omega
 refine⟨⟨?_,?_⟩,f1,e⟩
 ·rw[xdg _ _ _ (by omega),hb]
 ·rw[e,f2,← ht]
  unfold splice;have hl:(List.take (m.length%64) b).length=m.length%64:=by rw[List.length_take];omega
  rw[List.take_append,hl,Nat.add_sub_cancel_left,List.take_of_length_le (by omega)];rw[List.take_append_of_le_length (Nat.le_refl _),List.take_of_length_le (Nat.le_refl _)]
theorem stb_full{m b:LU}(h:StB m b)(x:LU)(hx:m.length%64+x.length=64) :
  (∀ c:LU,c.length=64→StB (m++x) c)∧hOf (m++x)=step (hOf m) (splice b (m.length%64) x)∧(m++x).length%64=0∧(splice b (m.length%64) x).length=64:=by
 obtain⟨hb,ht⟩:=h;obtain⟨f1,f2⟩:=xtq m x hx;have e:(m++x).length%64=0:=by rw[List.length_append];omega
 refine⟨fun c hc=>⟨hc,?_⟩,?_,e,?_⟩
 ·rw[e,f2];rfl
 ·rw[f1]
  congr 1;unfold splice;rw[ht,List.drop_eq_nil_of_le (by omega),List.append_nil]
 ·rw[xdg _ _ _ (by omega),hb]
theorem xm1(a b:Nat)(h:a%256=b%256):UInt8.ofNat a=UInt8.ofNat b:=by
 apply UInt8.toNat_inj.1;rw[UInt8.toNat_ofNat',UInt8.toNat_ofNat'];exact h
theorem be4_mod(v:Nat):be 4 (v%4294967296)=be 4 v:=by
 simp only[be,qn,qm,Nat.div_div_eq_div_mul,Nat.reduceMul];rw[xm1 (v%4294967296 / 16777216) (v / 16777216) (by omega),xm1 (v%4294967296 / 65536) (v / 65536) (by omega),xm1 (v%4294967296 / 256) (v / 256) (by omega),xm1 (v%4294967296) v (by omega)]
theorem be_split(v:Nat):be 8 v=be 4 (v / 4294967296)++be 4 (v%4294967296):=by
 rw[be4_mod];simp only[be,qn,qm,Nat.div_div_eq_div_mul,Nat.reduceMul]
def xez(m:LU)(j:Nat):LU:=m++128::List.replicate j 0
theorem xdy(m:LU)(j:Nat):(xez m j).length=m.length+1+j:=by simp[xez];omega
theorem xqh(m:LU)(j:Nat):xez m j++[0]=xez m (j+1):=by
 unfold xez;rw[List.append_assoc,List.cons_append,← List.replicate_succ']
theorem xtw(m:LU):xez m (padz m.length)++be 8 (8*m.length)=pad m:=by
 unfold xez pad;rw[List.append_assoc,List.cons_append]
theorem xqi(n j:Nat)(h:j≤padz n):(n+1+j)%64=56↔j=padz n:=by
 unfold padz at *;omega
theorem padz_lt(n:Nat):padz n<64:=Nat.mod_lt _ (by omega)
def outW(h:List Nat)(i:Nat):LU:=(h.take i).flatMap (be 4)++List.replicate (32 - 4*i) 0
theorem xou(h:List Nat):(h.flatMap (be 4)).length=4*h.length:=by
 induction h with
 | nil=>rfl
 | cons a h ih=>rw[List.flatMap_cons,List.length_append,ih,xca,List.length_cons];omega
theorem xov(h:List Nat)(i:Nat)(hl:h.length=8)(hi:i≤8):(outW h i).length=32:=by
 unfold outW;rw[List.length_append,xou,List.length_take,List.length_replicate];omega
theorem xtx(h:List Nat):outW h 0=List.replicate 32 0:=by simp[outW]
theorem outW_end(h:List Nat)(hl:h.length=8):outW h 8=h.flatMap (be 4):=by
 unfold outW;rw[List.take_of_length_le (by omega),Nat.sub_self];simp
theorem xty(h:List Nat)(i:Nat)(hl:h.length=8)(hi:i<8):splice (outW h i) (4*i) (be 4 (h.getD i 0))=outW h (i+1):=by
 have g:h.getD i 0=h[i]:=by rw[List.getD_eq_getElem?_getD,List.getElem?_eq_getElem (by omega),Option.getD_some]
 have hf:((h.take i).flatMap (be 4)).length=4*i:=by rw[xou,List.length_take];omega
 unfold outW splice;rw[List.take_append_of_le_length (by omega),List.take_of_length_le (by omega),xca,List.drop_append,List.drop_eq_nil_of_le (by omega),List.nil_append,hf,show 4*i+4 - 4*i=4 by omega,List.drop_replicate];rw[List.take_succ_eq_append_getElem (by omega),List.flatMap_append,List.append_assoc,g,show 32 - 4*i - 4=32 - 4*(i+1) by omega];simp
section
variable {P:Program}{w:World}{a:Act}{o:Oper}{t t':TypeId}
theorem xd8{d:TypeDesc}{k':IntKind}(hs:P.underlying t=some d)(hd:P.underlying t'=some (.int k'))(x:Operand)(ho:o.op=.convert t t' x)(k:IntKind)(n m:Int)(hk:d=.int k)(hx:a.eval x=.int k n)(hw:k'.wrap n=m) :
  (execOp a.eval o).run P w=.ok (.value (.int k' m)) w:=by
 subst hk;have hk:P.intKind t'=k':=by simp[Program.intKind,hd]
 have hr:=run_convert_int (P:=P) w t t' k n (by rw[hs];rfl) (by rw[hk];exact hd);rw[hk,hw] at hr;unfold execOp;simp only[ho,hx,Sem.run_bind,hr,Result.andThen_ok,Sem.run_pure]
theorem xtz(x y:Operand)(ho:o.op=.binOp .mul t x y t')(m n r:Int)(hx:a.eval x=.int .u64 m)(hy:a.eval y=.int .u64 n)(hr:m*n=r)(h1:0≤r∧r≤18446744073709551615) :
  (execOp a.eval o).run P w=.ok (.value (.int .u64 r)) w:=by
 subst hr;have e:IntKind.u64.wrap (m*n)=m*n:=by rw[IntKind.wrap_u64];omega
 unfold execOp;simp only[ho,hx,hy];go_simp
 try first | exact congrArg (fun z=>Result.ok (Next.value (Value.int .u64 z)) w) e | exact e
theorem xt0(x y:Operand)(ho:o.op=.binOp .shr t x y t')(m s:Nat)(k:IntKind)(hx:a.eval x=.int .u64 (m:Int))(hy:a.eval y=.int k (s:Int))(hs:s≤64)(d:Nat)(hd:2^s=d) :
  (execOp a.eval o).run P w=.ok (.value (.int .u64 ((m / d:Nat):Int))) w:=by
 subst hd;have h0:(0:Int)≤(s:Int):=by omega
 have h1:(s:Int)≤64:=by omega
 unfold execOp;simp only[ho,hx,hy];go_simp
end
section
variable {P:Program}{w:World}{a:Act}{o:Oper}{t t':TypeId}
theorem xdn(x:Operand)(ho:o.op=.nilCheck x)(ad:Addr)(hx:a.eval x=.pointer (some ad)) :
  (execOp a.eval o).run P w=.ok (.value (.pointer (some ad))) w:=by
 unfold execOp;simp only[ho,hx];go_simp
theorem xgy{n:Nat}(B:IA P t n)(x lo:Operand)(ho:o.op=.slice t x (some lo) none none)(g off l:Nat)(k:IntKind)(hx:a.eval x=.pointer (some ⟨g,off,none⟩))(hl:a.eval lo=.int k (l:Int))(hb:l<n) :
  (execOp a.eval o).run P w=.ok (.value (.slice (some ⟨g,off+l,none⟩) (n - l) (n - l))) w:=by
 obtain⟨e,hu,hs⟩:=B.u;have he:P.elem t=e:=by simp[Program.elem,hu]
 have hn:P.arrayLen t=n:=by simp[Program.arrayLen,hu]
 have hz:(sizeOf e).run P w=.ok 1 w:=by
  cases hq:P.info? e with
  | none=>simp[hq] at hs
  | some j =>
   simp[hq] at hs;simp[sizeOf,typeInfo,hq,hs]
 have hr:=run_sliceAt_array_l (P:=P) w t ⟨g,off,none⟩ (by rw[he,hn];exact hu) k (l:Int) (by omega) (by rw[hn];omega);rw[hn,he,hz] at hr;simp only[Result.andThen_ok,Int.toNat_natCast,slicedAt,Nat.mul_one] at hr;rw[if_neg (by omega),xei] at hr;unfold execOp;simp only[ho,hx,Option.map_some,hl,Option.map_none,Sem.run_bind,hr,Result.andThen_ok,Sem.run_pure]
theorem xeq{n:Nat}(B:IA P t n)(x:Operand)(ho:o.op=.slice t x none none none)(g off:Nat)(hx:a.eval x=.pointer (some ⟨g,off,none⟩)) :
  (execOp a.eval o).run P w=.ok (.value (.slice (some ⟨g,off,none⟩) n n)) w:=by
 obtain⟨e,hu,hs⟩:=B.u;have he:P.elem t=e:=by simp[Program.elem,hu]
 have hn:P.arrayLen t=n:=by simp[Program.arrayLen,hu]
 have hz:(sizeOf e).run P w=.ok 1 w:=by
  cases hq:P.info? e with
  | none=>simp[hq] at hs
  | some j =>
   simp[hq] at hs;simp[sizeOf,typeInfo,hq,hs]
 have hr:=run_sliceAt_array_all (P:=P) w t ⟨g,off,none⟩ (by rw[he,hn];exact hu);rw[hn,he,hz] at hr;simp only[Result.andThen_ok,slicedAt,Nat.zero_mul,Nat.sub_zero] at hr;have e0:(if n=0 then (⟨g,off,none⟩:Addr) else (⟨g,off,none⟩:Addr).add 0)=⟨g,off,none⟩:=by rw[xei];simp
 rw[e0] at hr;unfold execOp;simp only[ho,hx,Option.map_none,Sem.run_bind,hr,Result.andThen_ok,Sem.run_pure]
end
theorem xm2{w:World}{a:Act}{o:Oper}(x:Operand)(ho:o.op=.fieldAddr 324 x 1)(g:Nat)(hx:a.eval x=.pointer (some ⟨g,0,none⟩)):(execOp a.eval o).run prog w=.ok (.value (.pointer (some ⟨g,1,none⟩))) w:=by
 unfold execOp;simp only[ho,hx];go_simp
theorem xr3{w:World}{a:Act}{o:Oper}(x:Operand)(ho:o.op=.fieldAddr 324 x 2)(g:Nat)(hx:a.eval x=.pointer (some ⟨g,0,none⟩)):(execOp a.eval o).run prog w=.ok (.value (.pointer (some ⟨g,9,none⟩))) w:=by
 unfold execOp;simp only[ho,hx];go_simp
theorem xjl{w:World}{a:Act}{o:Oper}(x:Operand)(ho:o.op=.fieldAddr 324 x 3)(g:Nat)(hx:a.eval x=.pointer (some ⟨g,0,none⟩)):(execOp a.eval o).run prog w=.ok (.value (.pointer (some ⟨g,73,none⟩))) w:=by
 unfold execOp;simp only[ho,hx];go_simp
theorem xm3{w:World}{a:Act}{o:Oper}(x:Operand)(ho:o.op=.fieldAddr 324 x 4)(g:Nat)(hx:a.eval x=.pointer (some ⟨g,0,none⟩)):(execOp a.eval o).run prog w=.ok (.value (.pointer (some ⟨g,74,none⟩))) w:=by
 unfold execOp;simp only[ho,hx];go_simp
theorem xkc{w:World}{a:Act}{o:Oper}(x y:Operand)(ho:o.op=.index 320 x y)(l:List Nat)(i:Nat)(k:IntKind)(n:Nat)(hx:a.eval x=.agg (wvs l).toArray)(hy:a.eval y=.int k (i:Int))(hl:l.length=8)(e:l[i]? = some n) :
  (execOp a.eval o).run prog w=.ok (.value (.int .u32 (n:Int))) w:=by
 have hi:i<l.length:=(List.getElem?_eq_some_iff.1 e).1;have h1:(wvs l)[i]? = some (wv n):=by rw[xr2,e];rfl
 have h2:(i:Int)<8:=by omega
 have ha:(isAgg 306).run prog w=.ok false w:=by
  unfold isAgg;rw[Sem.run_bind,run_underlying underlying306 w];rfl
 have hz:(sizeOf 306).run prog w=.ok 1 w:=by
  have hs:=one94
  cases hq:prog.info? 306 with
  | none=>simp[hq] at hs
  | some j =>
   simp[hq] at hs;simp[sizeOf,typeInfo,hq,hs]
 have hp:(part 306 (wvs l).toArray i).run prog w=.ok (wv n) w:=by
  unfold part;rw[Sem.run_bind,ha];simp[h1]
 have hr:(Instr.index 320 (.agg (wvs l).toArray) (.int k (i:Int))).run prog w=.ok (wv n) w:=by
  simp[Instr.index,run_underlying underlying320,asIntOf,h2,hz,hp];intro h;omega
 unfold execOp;simp only[ho,hx,hy,Sem.run_bind,hr,Result.andThen_ok,Sem.run_pure];rfl
theorem at128:AT prog 324 75:=⟨⟨_,underlying324,rfl⟩,by kernel_rfl⟩
theorem at25w:AT prog 23 32:=⟨⟨_,underlying23,rfl⟩,by kernel_rfl⟩
theorem ia25:IA prog 23 32:=⟨⟨_,underlying23,by kernel_rfl⟩⟩
theorem one3:(prog.info? 3).map (·.size)=some 1:=by kernel_rfl
theorem w3:∃ d,prog.underlying 3=some d∧d.isRow=false:=⟨_,underlying3,rfl⟩
theorem w4:∃ d,prog.underlying 4=some d∧d.isRow=false:=⟨_,underlying4,rfl⟩
def St(w:World)(g:Nat)(m:LU):Prop:=∃ b,StB m b∧Blk w g 324 (stC (hOf m) b (m.length%64) m.length)
theorem St.lt{w:World}{g:Nat}{m:LU}(h:St w g m):g<w.heap.size:=by
 obtain⟨b,_,hb⟩:=h;exact hb.lt
theorem St.below{w w':World}{g:Nat}{m:LU}(h:St w g m)(hf:Bw w w'):St w' g m:=by
 obtain⟨b,h1,hb⟩:=h;exact⟨b,h1,hb.below hf hb.lt⟩
theorem stC_one(h:List Nat)(b:LU)(n all:Nat):∀ u∈stC h b n all,u.oneCell'=true:=by
 intro u hu;unfold stC at hu;rcases List.mem_cons.1 hu with rfl | hu
 ·rfl
 ·rcases List.mem_append.1 hu with hu | hu
  ·exact xed _ _ hu
  ·rcases List.mem_append.1 hu with hu | hu
   ·exact xb0 _ _ hu
   ·simp at hu
    rcases hu with rfl | rfl<;>rfl
theorem xkd(a b:ByteArray)(w:World) :
  Calls prog 164 #[.string a,.string b] w fun e w'=>e=.returned (iV (Lib.compareBytes a.data.toList b.data.toList))∧w'=w:=by
 go_enter func164,ntmps164
 go_wp2
 rw[run_callFunc_extern func217 (by kernel_rfl) (by kernel_rfl) (by kernel_rfl) (e:=Extern.BytealgCompare.compare) (by kernel_rfl),Lib.run_compareString];simp only[Result.andThen];rw[Oper.upon_value]
 go_wp2
 go_ret;exact⟨rfl,rfl⟩
theorem xjg(a b:ByteArray)(w:World) :
  Calls prog 103 #[.string a,.string b] w fun e w'=>e=.returned (iV (Lib.compareBytes a.data.toList b.data.toList))∧w'=w:=by
 go_enter func103,ntmps103;go_wp2_with (go_at_call 164;refine(xkd _ _ _).mono ?_;rintro e w' ⟨rfl,rfl⟩);go_ret;exact⟨rfl,rfl⟩
theorem xt1(x:Int)(w:World)(h0:0≤x)(h1:x≤255) :
  Calls prog 241 #[.int .u8 x] w fun e w'=>e=.returned (iV (Lib.bitLen x.toNat))∧w'=w:=by
 refine X2 ?_;intro e;go_enter func241,ntmps241
 go_wp2
 go_ret;have e':wrap64 (Lib.len8 x)=(Lib.bitLen x.toNat:Int):=by unfold wrap64;exact e.out
 rw[← e'];exact⟨rfl,rfl⟩
theorem xqj(x:Int)(w:World)(h0:0≤x)(h1:x≤255) :
  Calls prog 209 #[.int .u8 x] w fun e w'=>e=.returned (.int .i64 (8 - (Lib.bitLen x.toNat:Int)))∧w'=w:=by
 have l:=Lib.bitLen_le8 ⟨x.toNat,by omega⟩;simp only at l;go_enter func209,ntmps209;go_wp2_with (go_at_call 241;refine(xt1 x _ h0 h1).mono ?_;rintro e w' ⟨rfl,rfl⟩);go_ret;exact⟨rfl,rfl⟩
theorem xli(A:Option Addr)(n c:Nat)(l:LU)(B:Option Addr)(m d:Nat)(k:LU)(w:World)(ha:Rd w A (bvs l))(hl:l.length=n)(hb:Rd w B (bvs k))(hk:k.length=m) :
   Calls prog 48 #[.slice A n c,.slice B m d] w fun e w'=>e=.returned (iV (Lib.compareBytes l k))∧w=w':=by
 have HL:=hZ hl;clear hl;have HK:=hZ hk;clear hk;go_enter func48,ntmps48
 go_wp2_with (first
  | ((with_reducible refine xa4 6 ?_);refine xde bt rfl (.tmp 5) rfl A n c rfl l ha HL.out ?_)
  | ((with_reducible refine xa4 8 ?_);refine xde bt rfl (.tmp 7) rfl B m d rfl k hb HK.out ?_)
  | (go_at_call 103;refine(xjg _ _ _).mono ?_;rintro e w' ⟨rfl,rfl⟩))
 go_ret;exact⟨rfl,rfl⟩
variable {P:Program}{w:World}{a:Act}{o:Oper}
structure AB (P:Program)(T:TypeId)(n:Nat):Prop where
 u:∃ e,P.underlying T=some (.array n e)∧P.underlying e=some (.int .u8)∧(P.info? e).map (·.size)=some 1
 g:P.eqGuardType P.depth T=false
theorem AB.run{T n:Nat}(B:AB P T n)(xs ys:LU)(hx:xs.length=n)(hy:ys.length=n) :
  (binOp .eql T (.agg (bvs xs).toArray) (.agg (bvs ys).toArray)).run P w=.ok (.bool (xs==ys)) w:=by
 obtain⟨e,h1,h2,h3⟩:=B.u
 have hsz:∀ w,(sizeOf e).run P w=.ok 1 w:=by
  intro w;obtain⟨i,hi,he⟩:=Option.map_eq_some_iff.1 h3;simp[sizeOf,typeInfo,hi,he]
 exact run_eql_bytes w T e n h1 h2 hsz xs ys hx hy
theorem xfu{T T' n:Nat}(B:AB P T n)(x y:Operand)(ho:o.op=.binOp .eql T x y T')(xs ys:LU)(ex:a.eval x=.agg (bvs xs).toArray)(ey:a.eval y=.agg (bvs ys).toArray)(hx:xs.length=n)(hy:ys.length=n) :
  (execOp a.eval o).run P w=.ok (.value (.bool (xs==ys))) w:=by
 have hr:=AB.run (w:=w) B xs ys hx hy
 have hg:(eqGuard .eql T x y (.agg (bvs xs).toArray) (.agg (bvs ys).toArray)).run P w=.ok () w:=by
  simp[eqGuard,B.g]
 unfold execOp;simp only[ho,ex,ey,Sem.run_bind,hg,Result.andThen_ok,hr,Sem.run_pure]
theorem at23':AT prog 24 32:=⟨⟨_,underlying24,rfl⟩,by kernel_rfl⟩
theorem ab23:AB prog 24 32:=⟨⟨5,underlying24,underlying5,by kernel_rfl⟩,by kernel_rfl⟩
theorem xow(d:Int)(w:World)(h0:0≤d)(h1:d≤255) :
  Calls prog 211 #[iV d] w fun e w'=>e=.returned (.int .u8 (128 / 2^(d%8).toNat))∧w=w':=by
 go_enter func211,ntmps211;go_wp2_with fail;go_ret;exact⟨rfl,rfl⟩
theorem and_mask:∀ x,x<256→∀ k,k<8→(x &&& (128 / 2^k)=if x.testBit (7 - k) then 128 / 2^k else 0):=by decide +kernel
theorem bit_cond(x:UInt8)(n:Nat):(bits .and .u8 (x.toNat:Int) (128 / 2^((n:Int)%8).toNat) != 0)=x.toNat.testBit (7 - n%8):=by
 have e1:((n:Int)%8).toNat=n%8:=by omega
 have e2:(128:Int) / 2^(n%8)=((128 / 2^(n%8):Nat):Int):=by simp
 have e3:128 / 2^(n%8)<256:=Nat.lt_of_le_of_lt (Nat.div_le_self _ _) (by omega);rw[e1,e2,u8_and_nat _ _ x.toNat_lt e3,and_mask _ x.toNat_lt _ (by omega)]
 have e4:0<128 / 2^(n%8):=Nat.div_pos (by
  have:2^(n%8)≤2^7:=Nat.pow_le_pow_right (by omega) (by omega)
  omega) (Nat.pow_pos (by omega))
 split
 ·rename_i h
  rw[h];simp;omega
 ·rename_i h
  simp at h;rw[h];rfl
theorem bit_any(p:LU)(d:Int)(w:World)(hp:p.length=32)(hd : -9223372036854775808≤d∧d≤9223372036854775807) :
  Calls prog 150 #[arr8 p,iV d] w (oB w (iV (bitZ p d))):=by
 have HP:=hZ hp;clear hp;refine X3 ?_;intro hB hb;unfold arr8;by_cases h0:d<0
 ·have e1:bitZ p d = -1:=by unfold bitZ;rw[if_neg (by omega)]
  rw[e1];clear e1;go_enter func150,ntmps150;go_wp2_with fail;go_ret;exact⟨rfl,hB⟩
 ·by_cases h1:256≤d
  ·have e1:bitZ p d = -1:=by unfold bitZ;rw[if_neg (by omega)]
   rw[e1];clear e1;go_enter func150,ntmps150;go_wp2_with fail;go_ret;exact⟨rfl,hB⟩
  ·obtain⟨n,rfl⟩:=Int.eq_ofNat_of_zero_le (show 0≤d by omega)
   have hn:n<256:=by omega
   obtain⟨x,hx⟩:∃ x,p[n / 8]? = some x:=⟨_,List.getElem?_eq_getElem (by have:=HP.out;omega)⟩;have hxd:p.getD (n / 8) 0=x:=by rw[List.getD_eq_getElem?_getD,hx];rfl
   have e1:bitZ p n=((x.toNat.testBit (7 - n%8)).toNat:Int):=by unfold bitZ;rw[if_pos (by omega)];unfold tb;rw[Int.toNat_natCast,hxd]
   rw[e1];clear e1;go_enter func150,ntmps150;go_wp2_with fail;generalize hW:w.alloc (.cells (bvs p).toArray 24)=w0 at *;have hc:w0.cell? ⟨w.heap.size,n / 8,none⟩=some (.int .u8 (x.toNat:Int)):=by rw[hb.cell,xe5,hx];rfl
   have hlt:=hb.lt;obtain⟨m,hmm⟩:∃ m,m=n / 8:=⟨_,rfl⟩;have k2:IntKind.i64.wrap ((n:Int) / 8)=(m:Int):=by rw[IntWalk.i64_in _ (by omega)];omega
   have k3:(m:Int)<32:=by omega
   rw[← hmm] at hc hx hxd;have HM:=hZ hmm;clear hmm;refine rB (Below w0.heap.size w0) [] [5] [0,1,2,3,4,5,6,7,8] 0 ?_;refine X4 ?_;have hS:(Below w0.heap.size w0) _:=(Below.refl _ _).drew;refine X8 ?_;refine X7 ?_;refine xab (v:=?_) rfl rfl hS ?_ ?_;rotate_left;(· intro W hW;have hcw:=(Below.cell hW (World.block_lt_of_cell? _ _ hc)).trans hc;go_simp;try with_reducible rfl);refine X9 ?_;refine xc0 rfl rfl ?_;intro K hK;go_simp;refine(xow n _ (by omega) (by omega)).mono ?_;rintro e w1 ⟨rfl,rfl⟩;refine hK _ _ (fun _=>hS) ?_;clear hK;refine X8 ?_;refine X5 ?_;refine Xb ?_;go_wp2_with fail
   all_goals
    go_ret;refine⟨ret_i ?_,hB.trans (hS.mono hB.size)⟩;rename_i hh;rw[bit_cond] at hh;rw[hh];rfl
structure Two (w w0:World)(t:TypeId)(p q:LU):Prop where
 b:Bw w w0
 p:Blk w0 w.heap.size t (bvs p)
 q:Blk w0 (w.heap.size+1) t (bvs q)
theorem Two.mk'(w:World)(t:TypeId)(p q:LU):Two w ((w.alloc (.cells (bvs p).toArray t)).alloc (.cells (bvs q).toArray t)) t p q :=
 ⟨((Below.refl _ _).alloc (Nat.le_refl _) _).alloc (by simp) _,(Blk.new _ _ _).alloc _,by
  have:=Blk.new (w.alloc (.cells (bvs p).toArray t)) t (bvs q)
  simpa using this⟩
theorem xhd{w:World}{g t:Nat}{p:LU}(hb:Blk w g t (bvs p))(hp:p.length=32)(k:Nat)(hk:k<32):w.cell? ⟨g,k,none⟩=some (.int .u8 ((p.getD k 0).toNat:Int)):=by
 rw[hb.cell,xe5,List.getElem?_eq_getElem (by omega),List.getD_eq_getElem?_getD,List.getElem?_eq_getElem (by omega)];rfl
theorem xox(p q:LU)(w:World)(hp:p.length=32)(hq:q.length=32) :
  Calls prog 14 #[arr8 p,arr8 q] w (oB w (.int .i64 (cmpZ (nOf p) (nOf q)))):=by
 rw[← xi2 p q (by omega)];have HP:=hZ hp;have HQ:=hZ hq;clear hp hq;unfold arr8;go_enter func14,ntmps14;go_wp2_with fail;have h2:=Two.mk' w 24 p q;generalize hW:(w.alloc (.cells (bvs p).toArray 24)).alloc (.cells (bvs q).toArray 24)=w0 at *;clear hW;refine rB (Below w0.heap.size w0) [] [2] [0,1,2,3] 0 ?_;refine X4 ?_;have hS:(Below w0.heap.size w0) _:=(Below.refl _ _).drew;refine X8 ?_;refine xc0 rfl rfl ?_;intro K hK;go_simp;refine(xli (some ⟨w.heap.size,0,none⟩) 32 32 p (some ⟨w.heap.size+1,0,none⟩) 32 32 q _ (Rd.below (Rd.of_blk0 (es:=[]) (by simpa using h2.p)) hS) HP.out (Rd.below (Rd.of_blk0 (es:=[]) (by simpa using h2.q)) hS) HQ.out).mono ?_;rintro e w1 ⟨rfl,rfl⟩;refine hK _ _ (fun _=>hS) ?_;clear hK;refine X5 ?_;refine Xb ?_;go_wp2_with fail;go_ret;exact⟨rfl,h2.b.trans (hS.mono h2.b.size)⟩
theorem xt2(p:LU)(w:World)(hp:p.length=32) :
  Calls prog 35 #[arr8 p] w fun e w'=>∃ v,e=.returned v∧OwnB w' w.heap.size 5 v p∧Bw w w':=by
 have HP:=hZ hp;clear hp;refine X3 ?_;intro hB hb;unfold arr8;go_enter func35,ntmps35;have hr:Rd ((w.alloc (.cells (bvs p).toArray 24)).alloc (.cells #[] 5)) (some ⟨w.heap.size,0,none⟩) (bvs p):=(Rd.of_blk0 (es:=[]) (by simpa using hb)).alloc _
 have ho:OwnB ((w.alloc (.cells (bvs p).toArray 24)).alloc (.cells #[] 5)) w.heap.size 5 (.slice (some ⟨w.heap.size+1,0,none⟩) 0 0) [] :=
  .inr ⟨w.heap.size+1,[],rfl,by omega,by simp,by simpa[bvs] using Blk.new (w.alloc (.cells (bvs p).toArray 24)) 5 []⟩
 have hB1:Below w.heap.size w ((w.alloc (.cells (bvs p).toArray 24)).alloc (.cells #[] 5)):=hB.alloc (by simp) _;go_wp2_with ((with_reducible refine xa4 5 ?_);refine xdd bt rfl (.tmp 3) (.tmp 4) rfl w.heap.size _ [] rfl ho _ 32 32 p rfl HP.out hr (by simp) hB1.size ?_;intro v1 w1 ho1 hg1 _);go_ret;exact⟨v1,rfl,by simpa using ho1,hB1.grown hg1 hB1.size (fun g hg=>(ho.lt g hg).1)⟩
def keyZ:LU:=List.replicate 32 0
theorem xa7:keyZ.length=32:=by simp[keyZ]
theorem of_any(A:Option Addr)(n c:Nat)(l:LU)(w:World)(hr:Rd w A (bvs l))(hl:l.length=n)(hn:n≤140737488351232)(hc:n≤c) :
  Calls prog 40 #[.slice A n c] w (oB w (.tuple #[arr8 (if l.length=32 then l else keyZ),iV (if l.length=32 then 0 else 3)])):=by
 have HL:=hZ hl;have hz:Blk (w.alloc (.cells (bvs keyZ).toArray 24)) w.heap.size 24 (bvs keyZ):=Blk.new _ _ _;have hB:Below w.heap.size w (w.alloc (.cells (bvs keyZ).toArray 24)):=(Below.refl _ _).alloc (Nat.le_refl _) _;by_cases h32:n=32
 ·subst h32
  rw[if_pos hl,if_pos hl];clear hl;have hr1:=hr;obtain⟨ad,rfl,hcc⟩:=hr1 (by rw[xae,HL.out];omega);unfold arr8;go_enter func40,ntmps40
  go_wp2_with (first
   | ((with_reducible refine xa4 9 ?_);refine xaa rfl _ (xlg underlying24 (.tmp 8) rfl _ 32 c rfl (Nat.le_refl _)) ?_)
   | ((with_reducible refine xa4 10 ?_);refine xaa rfl _ (xa5 at23' (.tmp 9) rfl ad (bvs l) rfl (hr.alloc _) (by omega) (by rw[xae];exact HL.out)) ?_)
   | ((with_reducible refine xeg (Op.store 24 (.tmp 2) (.tmp 10)) ?_)
      refine xal at23'.i rfl (.tmp 2) (.tmp 10) rfl w.heap.size 0 24 (bvs keyZ) (bvs l) rfl rfl hz (by rw[xae];exact HL.out) (by rw[xae];simp[keyZ]) (xb0 _) ?_
      intro w1 hb1 hg1 hs1))
  refine Xc ?_
  have e1:splice (bvs keyZ) 0 (bvs l)=bvs l:=by
   unfold splice;rw[List.drop_eq_nil_of_le (by rw[xae,xae,xa7,HL.out];omega)];simp
  rw[e1] at hb1;refine bodyPost_ret (xay rfl at23' _ _ w.heap.size 24 (bvs l) rfl hb1 (by rw[xae];exact HL.out)) rfl ?_;exact⟨rfl,hB.grown hg1 (Nat.le_of_lt hz.lt) (by intro k hk;cases hk;exact Nat.le_refl _)⟩
 ·rw[if_neg (by omega),if_neg (by omega)]
  clear hl;unfold arr8;go_enter func40,ntmps40
  go_wp2_with (first
   | ((with_reducible refine xeg (Op.store 24 (.tmp 2) (.tmp 7)) ?_)
      refine xal at23'.i rfl (.tmp 2) (.tmp 7) rfl w.heap.size 0 24 (bvs keyZ) (bvs keyZ) rfl rfl hz (by rw[xae];exact xa7) (by rw[xae];simp[keyZ]) (xb0 _) ?_
      intro w1 hb1 hg1 hs1))
  refine Xc ?_
  have e1:splice (bvs keyZ) 0 (bvs keyZ)=bvs keyZ:=by
   unfold splice;rw[List.drop_eq_nil_of_le (by omega)];simp
  rw[e1] at hb1;refine bodyPost_ret (xay rfl at23' _ _ w.heap.size 24 (bvs keyZ) rfl hb1 (by rw[xae];exact xa7)) rfl ?_;exact⟨rfl,hB.grown hg1 (Nat.le_of_lt hz.lt) (by intro k hk;cases hk;exact Nat.le_refl _)⟩
end Go.Proofs.YtkjjdgnkelchfaaGreat
