import Derived.Test.YtkjjdgnkelchfaaGreatPNU1
set_option linter.unusedSimpArgs false
set_option linter.unusedVariables false
set_option maxRecDepth 100000
set_option maxHeartbeats 16000000
namespace Go.Proofs.YtkjjdgnkelchfaaGreat
open Go Go.Proofs.Tryz
theorem xfp:∀ (a r:List Char),(∀ c∈a,c≠Char.ofNat 32)→wordsSigns (a++Char.ofNat 32::r)=a::wordsSigns r
 | [],r,_=>by rw[List.nil_append];rfl
 | c::a,r,h=>by
  have ih:=xfp a r (fun x hx=>h x (by simp[hx]));have hc:=h c (by simp);rw[List.cons_append]
  conv=>lhs;unfold wordsSigns
  split
  ·rename_i e;injection e
  ·rename_i e
   injection e with e _;exact absurd e hc
  ·rename_i e
   injection e with e1 e2;subst e1;subst e2;rw[ih]
def signs(l:List Nat):List Char:=l.map Char.ofNat
def head1:List Char:=signs [104,97,114,110,101,115,115]
def head2:List Char:=signs [56,57,57,56,98,50,55,99,50,97,101,101,54,51,48,101,54,51,98,54,54,53,49,52,54,100,51,51,55,100,55,57,53,52,97,51,48,101,97,49,99,100,100,
  48,54,49,101,51,56,54,97,53,98,56,102,48,102,48,101,101,53,99,55,53]
def xi0:List Char:=signs [99,117,116]
def xj3:List Char:=signs [97,116,32,114,111,111,116,99,101,108,108,97,114,47,114,111,111,116,99,101,108,108,97,114,116,111,112,46,84,111,112,84,114,117,116,104,115,32,
  114,111,111,116,99,101,108,108,97,114,47,114,111,111,116,99,101,108,108,97,114,116,111,112,46,84,111,112,67,114,97,115,104,32,114,111,111,116,
  99,101,108,108,97,114,47,114,111,111,116,99,101,108,108,97,114,116,111,112,46,84,111,112,78,101,120,116]
theorem xti:prog.initOrder.toList=head1++Char.ofNat 32::(head2++Char.ofNat 32::(xi0++Char.ofNat 32::xj3)):=by
 have h:prog.initOrder=String.ofList (head1++Char.ofNat 32::(head2++Char.ofNat 32::(xi0++Char.ofNat 32::xj3))):=by kernel_rfl
 rw[h,String.toList_ofList]
theorem xj4{l:List Char}(h:(l.all fun c=>!(c==Char.ofNat 32))=true):∀ c∈l,c≠Char.ofNat 32:=fun c hc e=>by
 have:=List.all_eq_true.1 h c hc;simp[e] at this
theorem xtj(a b c:List Char)(r:List (List Char))(h:((a== "harness".toList || a== "ownmain".toList)&&isSumSigns b)=true):behindMainWord (a::b::c::r)=c::r:=by
 unfold behindMainWord;exact if_pos h
theorem xg4:behindMainWord (wordsSigns prog.initOrder.toList)=xi0::wordsSigns xj3:=by
 rw[xti,xfp _ _ (xj4 (by kernel_rfl)),xfp _ _ (xj4 (by kernel_rfl)),xfp _ _ (xj4 (by kernel_rfl))];exact xtj _ _ _ _ (by kernel_rfl)
theorem enter_of(x:List (List Char))(P:Program)(h:behindMainWord (wordsSigns P.initOrder.toList)=xi0::x)(hl:P.laysLater=false)(hb:P.bearsReflect=false)(hd:P.doorFits []=true):P.mayEnter=true:=by
 unfold Program.mayEnter;rw[h];have hs:stripLifts liftWords (xi0::x)=([],xi0::x):=by kernel_rfl
 simp[hs,hl,hb,hd];exact Or.inr (by kernel_rfl)
theorem lifts_of(x:List (List Char))(P:Program)(h:behindMainWord (wordsSigns P.initOrder.toList)=xi0::x):P.liftsFinal=false:=by
 unfold Program.liftsFinal Program.headLifts;simp only[h]
 kernel_rfl
theorem make_of(x:List (List Char))(P:Program)(h:behindMainWord (wordsSigns P.initOrder.toList)=xi0::x):P.make=some .cut:=by
 unfold Program.make;rw[h];kernel_rfl
theorem fa_laid:laidOutB prog=true:=by kernel_rfl
theorem fa_maps:mapsRowed prog=true:=by kernel_rfl
theorem fa_stops:(prog.stops==[])=true:=by kernel_rfl
theorem fa_knobs:(prog.stopKnobs==[])=true:=by kernel_rfl
theorem fa_keys:prog.plainKeys=false:=by kernel_rfl
theorem fa_heard:prog.stopsHeard=true:=by kernel_rfl
theorem fa_later:prog.laysLater=false:=by kernel_rfl
theorem xqd:prog.bearsReflect=false:=by kernel_rfl
theorem fa_door:prog.doorFits []=true:=by kernel_rfl
theorem fa_enter:prog.mayEnter=true:=enter_of _ _ xg4 fa_later xqd fa_door
theorem fa_lifts:prog.liftsFinal=false:=lifts_of _ _ xg4
theorem fa_make:prog.make=some .cut:=make_of _ _ xg4
end Go.Proofs.YtkjjdgnkelchfaaGreat
namespace Go.Proofs.YtkjjdgnkelchfaaGreat
open Go Go.RowKit Go.Proofs.Tryz
def bv(x:UInt8):Value:=.int .u8 (x.toNat:Int)
def bvs(l:LU):List Value:=l.map bv
theorem xae(l:LU):(bvs l).length=l.length:=by simp[bvs]
theorem xd6(l m:LU):bvs (l++m)=bvs l++bvs m:=by simp[bvs]
theorem xe5(l:LU)(i:Nat):(bvs l)[i]? = l[i]?.map bv:=by simp[bvs]
theorem xb0(l:LU):∀ u∈bvs l,u.oneCell'=true:=by
 intro u hu;obtain⟨x,_,rfl⟩:=List.mem_map.1 hu;rfl
def Blk(w:World)(g:Nat)(t:TypeId)(cs:List Value):Prop:=w.heap[g]? = some (.cells cs.toArray t (0,0))
section
variable {w w':World}{g:Nat}{t:TypeId}{cs:List Value}
theorem Blk.lt(h:Blk w g t cs):g<w.heap.size:=by
 rcases Nat.lt_or_ge g w.heap.size with hlt | hge
 ·exact hlt
 ·unfold Blk at h;rw[Array.getElem?_eq_none hge] at h;cases h
theorem Blk.cell(h:Blk w g t cs)(i:Nat):w.cell? ⟨g,i,none⟩=cs[i]? := by
 rw[cell_of_row w g i cs.toArray t (0,0) h];simp
theorem Blk.free(h:Blk w g t cs)(i:Nat):w.frozen? ⟨g,i,none⟩=false:=frozen_of_row w g i cs.toArray t h
theorem Blk.new(w:World)(t:TypeId)(cs:List Value):Blk (w.alloc (.cells cs.toArray t)) w.heap.size t cs:=heap_alloc_new w _
theorem Blk.drew(h:Blk w g t cs):Blk w.drew g t cs:=h
theorem Blk.alloc(h:Blk w g t cs)(o:Obj):Blk (w.alloc o) g t cs:=(Below.heap_alloc w o g h.lt).trans h
theorem Blk.set_(h:Blk w g t cs)(i:Nat)(u:Value):Blk (w.setCell ⟨g,i,none⟩ u) g t (cs.set i u):=by
 have:=heap_setCell_same w g i cs.toArray t u h;unfold Blk;rw[this];simp
theorem Blk.far(h:Blk w g t cs){p:Addr}(hp:g≠p.block)(u:Value):Blk (w.setCell p u) g t cs:=(Below.heap_setCell w p u g hp).trans h
theorem Blk.below{B:Nat}(h:Blk w g t cs)(hb:Below B w w')(hg:g<B):Blk w' g t cs:=(hb.block g hg).trans h
theorem Blk.grown{row:Option Nat}(h:Blk w g t cs)(hb:w.grownBy w' row)(hg:some g≠row):Blk w' g t cs:=(hb.block g h.lt hg).trans h
theorem Blk.row(h:Blk w g t cs)(ds:List Value):Blk (w.setRow g ds.toArray) g t ds:=setRow_heap w g cs.toArray ds.toArray t (0,0) h
end
def Rd(w:World)(A:Option Addr)(cs:List Value):Prop :=
 0<cs.length→∃ ad,A=some ad∧∀ j u,cs[j]? = some u→w.cell? (ad.add j)=some u
section
variable {w w':World}{A:Option Addr}{cs:List Value}
theorem Rd.nil(w:World)(A:Option Addr):Rd w A []:=fun h=>absurd h (by simp)
theorem Rd.at_(h:Rd w A cs){k:Nat}(hk:k<cs.length):∃ ad,A=some ad∧w.cell? (ad.add k)=some cs[k]:=by
 obtain⟨ad,e,hc⟩:=h (by omega);exact⟨ad,e,hc k _ (List.getElem?_eq_getElem hk)⟩
theorem Rd.keep(h:Rd w A cs)(hk:∀ (p:Addr) u,w.cell? p=some u→w'.cell? p=some u):Rd w' A cs:=fun hn=>by
 obtain⟨ad,e,hc⟩:=h hn;exact⟨ad,e,fun j u hu=>hk _ _ (hc j u hu)⟩
theorem Rd.below(h:Rd w A cs)(hb:Bw w w'):Rd w' A cs :=
 h.keep fun p _ hp=>(hb.cell (World.block_lt_of_cell? w p hp)).trans hp
theorem Rd.drew(h:Rd w A cs):Rd w.drew A cs:=h
theorem Rd.alloc(h:Rd w A cs)(o:Obj):Rd (w.alloc o) A cs:=h.keep fun p _ hp=>(World.cell?_alloc_lt w o p (World.block_lt_of_cell? w p hp)).trans hp
theorem Rd.of_blk{g:Nat}{t:TypeId}{ds:List Value}(h:Blk w g t ds)(o n:Nat)(_hn:o+n≤ds.length):Rd w (some ⟨g,o,none⟩) ((ds.drop o).take n):=fun _=>by
 refine⟨_,rfl,fun j u hu=>?_⟩
 have hj:j<n:=by
  have:=(List.getElem?_eq_some_iff.1 hu).1;simp at this;omega
 have:(⟨g,o,none⟩:Addr).add j=⟨g,o+j,none⟩:=by
  unfold Addr.add;split
  ·subst_vars;rfl
  ·rfl
 rw[this,h.cell];rw[List.getElem?_take_of_lt hj,List.getElem?_drop] at hu;exact hu
theorem Rd.of_blk0{g:Nat}{t:TypeId}{ds es:List Value}(h:Blk w g t (ds++es)):Rd w (aS g) ds:=by
 have:=Rd.of_blk h 0 ds.length (by simp);simpa using this
theorem Rd.cut(h:Rd w A cs)(k m:Nat):Rd w (A.map (·.add k)) ((cs.drop k).take m):=fun hn=>by
 obtain⟨ad,rfl,hc⟩:=h (by simp at hn;omega);refine⟨ad.add k,rfl,fun j u hu=>?_⟩
 have e:(ad.add k).add j=ad.add (k+j):=by
  unfold Addr.add;by_cases hi:k=0<;>by_cases hj:j=0<;>simp[hi,hj,Nat.add_assoc]
 rw[e];apply hc
 have hj:j<m:=by
  have:=(List.getElem?_eq_some_iff.1 hu).1;simp at this;omega
 rw[List.getElem?_take_of_lt hj,List.getElem?_drop] at hu;exact hu
theorem Rd.take(h:Rd w A cs)(m:Nat):Rd w A (cs.take m):=fun hn=>by
 obtain⟨ad,rfl,hc⟩:=h (by simp at hn;omega);refine⟨ad,rfl,fun j u hu=>hc j u ?_⟩
 have hj:j<m:=by
  have:=(List.getElem?_eq_some_iff.1 hu).1;simp at this;omega
 rwa [List.getElem?_take_of_lt hj] at hu
end
structure Fr (S:Nat→Prop)(w w':World):Prop where
 os:w'.os=w.os
 tape:w'.tape=w.tape
 output:w'.output=w.output
 size:w.heap.size≤w'.heap.size
 block:∀ k,k<w.heap.size→¬ S k→w'.heap[k]? = w.heap[k]?
section
variable {S:Nat→Prop}{a b c w w':World}
theorem Fr.refl(S:Nat→Prop)(w:World):Fr S w w:=⟨rfl,rfl,rfl,Nat.le_refl _,fun _ _ _=>rfl⟩
theorem Fr.trans(h:Fr S a b)(k:Fr S b c):Fr S a c :=
 ⟨k.os.trans h.os,k.tape.trans h.tape,k.output.trans h.output,Nat.le_trans h.size k.size,fun i hi hs=>(k.block i (Nat.lt_of_lt_of_le hi h.size) hs).trans (h.block i hi hs)⟩
theorem Fr.below(h:Fr S a b)(k:Bw b c):Fr S a c :=
 ⟨k.os.trans h.os,k.tape.trans h.tape,k.output.trans h.output,Nat.le_trans h.size k.size,fun i hi hs=>(k.block i (Nat.lt_of_lt_of_le hi h.size)).trans (h.block i hi hs)⟩
theorem Fr.grown{row:Option Nat}(h:Fr S a b)(k:b.grownBy c row)(hr:∀ g,row=some g→S g∨a.heap.size≤g):Fr S a c :=
 ⟨k.os.trans h.os,k.tape.trans h.tape,k.output.trans h.output,Nat.le_trans h.size k.size,fun i hi hs=>(k.block i (Nat.lt_of_lt_of_le hi h.size) (fun e=>by
  rcases hr i e.symm with h1 | h1
  ·exact hs h1
  ·omega)).trans (h.block i hi hs)⟩
theorem Fr.drew(h:Fr S a b):Fr S a b.drew:=⟨h.os,h.tape,h.output,h.size,h.block⟩
theorem Fr.setCell(h:Fr S a b){p:Addr}(hp:S p.block∨a.heap.size≤p.block)(u:Value):Fr S a (b.setCell p u) :=
 ⟨h.os,h.tape,h.output,by simpa[World.setCell] using h.size,fun i hi hs=>(Below.heap_setCell b p u i (by
  rintro rfl;rcases hp with hp | hp
  ·exact hs hp
  ·omega)).trans (h.block i hi hs)⟩
theorem Fr.of_below(h:Bw a b):Fr S a b:=⟨h.os,h.tape,h.output,h.size,fun i hi _=>h.block i hi⟩
theorem Rd.fr{A:Option Addr}{cs:List Value}(h:Rd a A cs)(hf:Fr S a b)(hA:∀ ad,A=some ad→¬ S ad.block):Rd b A cs:=fun hn=>by
 obtain⟨ad,e,hc⟩:=h hn;refine⟨ad,e,fun j u hu=>?_⟩;have h1:=hc j u hu;have hb:(ad.add j).block=ad.block:=by unfold Addr.add;split<;>rfl
 have hlt:=World.block_lt_of_cell? a _ h1;rw[World.cell?_of_block (w:=a) (hf.block _ hlt (by rw[hb];exact hA ad e)),h1]
theorem Blk.fr{g:Nat}{t:TypeId}{cs:List Value}(h:Blk a g t cs)(hf:Fr S a b)(hg : ¬ S g):Blk b g t cs:=(hf.block g h.lt hg).trans h
end
section
variable {P:Program}{ops:Array Oper}{rest:List Oper}{a:Act}{w:World}{Q:Exit→Act→World→Prop}
theorem xa4(d:Tmp){op:Op}{ty:TypeId}{pos:String}{after:Array Edge}{g:Option (Nat×Bool)}
  (h:wpList P ops Q (⟨some d,op,ty,pos,after,g⟩::rest) a w):wpList P ops Q (⟨some d,op,ty,pos,after,g⟩::rest) a w:=h
theorem xeg(op:Op){d:Option Tmp}{ty:TypeId}{pos:String}{after:Array Edge}{g:Option (Nat×Bool)}
  (h:wpList P ops Q (⟨d,op,ty,pos,after,g⟩::rest) a w):wpList P ops Q (⟨d,op,ty,pos,after,g⟩::rest) a w:=h
end
structure BT (P:Program)(T E S:TypeId):Prop where
 t:P.underlying T=some (.slice E)
 e:P.underlying E=some (.int .u8)
 s:P.underlying S=some .string
 i:(P.info? E).map (fun i=>(i.zero,i.size,i.bytes))=some (some (.int .u8 0),1,1)
section
variable {P:Program}{T E S:TypeId}{w:World}{ops:Array Oper}{rest:List Oper}{o:Oper}{a:Act}{Q:Exit→Act→World→Prop}
theorem xlq(n:Nat):madeCells (Value.int .u8 0).cells n=(bvs (List.replicate n 0)).toArray:=by
 apply Array.ext';apply List.ext_getElem?;intro j;simp[madeCells,bvs,bv,Value.cells,List.getElem?_replicate];by_cases h:j<n
 ·simp[h,Nat.mod_one]
 ·simp[h]
theorem xf6(B:BT P T E S)(kl kc:IntKind)(n c:Nat)(hnc:n≤c)(hc:c≤281474976710656) :
  (Instr.makeSlice T (.int kl n) (.int kc c)).run P w=.ok (.slice (some ⟨w.heap.size,0,none⟩) n c) (w.alloc (.cells (bvs (List.replicate c 0)).toArray E)):=by
 obtain⟨i,hi,hz,hs,hb⟩:=info_parts B.i;have hr:=run_make (P:=P) w T E i _ B.t hi hz kl kc n c (by omega) (by omega) (by rw[hb];omega) (by omega);rw[hs,xlq] at hr;simpa using hr
theorem xg9(B:BT P T E S)(hgd:o.guard=none)(l c:Operand)(ho:o.op=Op.makeSlice T l c)(kl kc:IntKind)(n m:Nat)(hl:a.eval l=.int kl n)(hc:a.eval c=.int kc m)
  (hnc:n≤m) (hm:m≤281474976710656)
  (h:∀ w',Blk w' w.heap.size E (bvs (List.replicate m 0))→Bw w w'→w'.heap.size=w.heap.size+1→wpList P ops Q rest (a.put o.dst (.slice (some ⟨w.heap.size,0,none⟩) n m)) w'):wpList P ops Q (o::rest) a w:=by
 refine X1 ?_;intro K hK;have hr:=xf6 (w:=w) B kl kc n m hnc hm;unfold Oper.wp;simp[execOp,ho,hl,hc,hr,Result.andThen];exact hK _ _ (h _ (Blk.new _ _ _) ((Below.refl _ _).alloc (Nat.le_refl _) _) (by simp))
theorem xdv(w:World)(g:Nat)(cs:Array Value):w.grownBy (w.setRow g cs) (some g) :=
 ⟨rfl,rfl,rfl,by simp,fun k _ hne=>setRow_other w g k cs (fun e=>hne (by rw[e]))⟩
def OwnB(w:World)(base:Nat)(E:TypeId)(v:Value)(l:LU):Prop :=
 (v=.slice none 0 0∧l = [])∨∃ (g:Nat)(sp:LU),v=.slice (aS g) l.length (l.length+sp.length)∧base≤g∧l.length+sp.length≤maxLen∧Blk w g E (bvs (l++sp))
theorem OwnB.nil(w:World)(base:Nat)(E:TypeId):OwnB w base E (.slice none 0 0) []:=.inl ⟨rfl,rfl⟩
theorem OwnB.rd{base:Nat}{v:Value}{l:LU}(h:OwnB w base E v l):∃ A c,v=.slice A l.length c∧l.length≤c∧c≤maxLen∧Rd w A (bvs l):=by
 rcases h with⟨rfl,rfl⟩ | ⟨g,sp,rfl,_,hm,hb⟩
 ·exact⟨none,0,rfl,by simp,by simp,Rd.nil _ _⟩
 ·rw[xd6] at hb
  exact⟨_,_,rfl,by omega,hm,Rd.of_blk0 hb⟩
theorem OwnB.mono{base base':Nat}{v:Value}{l:LU}(h:OwnB w base E v l)(hb:base'≤base):OwnB w base' E v l:=by
 rcases h with h | ⟨g,sp,e,hg,hm,hk⟩
 ·exact .inl h
 ·exact .inr ⟨g,sp,e,by omega,hm,hk⟩
theorem OwnB.lt{base:Nat}{v:Value}{l:LU}(h:OwnB w base E v l):∀ k,v.ownBlock=some k→base≤k∧k<w.heap.size:=by
 rcases h with⟨rfl,rfl⟩ | ⟨g,sp,rfl,hg,hm,hk⟩
 ·intro k hk;simp[Value.ownBlock] at hk
 ·intro k he
  simp[Value.ownBlock] at he;subst he;exact⟨hg,hk.lt⟩
theorem xtk(n:Nat):(Builtin.zeroCells (Value.int .u8 0).cells n)=(bvs (List.replicate n 0)).toArray:=by
 have:Builtin.zeroCells (Value.int .u8 0).cells n=madeCells (Value.int .u8 0).cells n:=by
  simp[Builtin.zeroCells,madeCells,Value.cells]
 rw[this,xlq]
theorem xh5(B:BT P T E S)(ty:TypeId)(base:Nat)(v:Value)(l:LU)(hown:OwnB w base E v l)(A:Option Addr)(m c:Nat)(x:LU)(hx:x.length=m)(hr:Rd w A (bvs x))
  (hbytes:l.length+m≤140737488355328) (hbase:base≤w.heap.size) :
  ∃ v' w',(Builtin.append_ #[T,T] ty #[v,.slice A m c]).run P w=.ok v' w'∧OwnB w' base E v' (l++x)∧w.grownBy w' v.ownBlock∧(v'.ownBlock=v.ownBlock∨v'.ownBlock=some w.heap.size):=by
 obtain⟨i,hi,hz,hsz,hb⟩:=info_parts B.i;subst hx;have hml:(maxLen:Nat)=9223372036854775807:=rfl;by_cases h0:x = []
 ·subst h0
  refine⟨v,w,?_,by simpa using hown,World.grownBy.refl _ _,.inl rfl⟩;have hst:∀ ad:Addr,(storeCells ad []).run P w=.ok () w:=fun ad=>rfl
  rcases hown with⟨rfl,rfl⟩ | ⟨g,sp,rfl,hg,hm,hk⟩
  ·cases A<;>simp[Builtin.append_,run_underlying B.t,sizeOf,typeInfo,hi,Builtin.lenOf,Builtin.firstCells,loadCells,loadCellsFrom]
  ·cases A<;>simp[Builtin.append_,run_underlying B.t,sizeOf,typeInfo,hi,Builtin.lenOf,Builtin.firstCells,loadCells,loadCellsFrom,storeCells]
 ·have hpos:0<x.length:=List.length_pos_iff.2 h0
  obtain⟨ad,rfl,hc⟩:=hr (by rw[xae];exact hpos);have hgc:∀ old,grownCap w (l.length+x.length) old E≤maxLen:=fun old=>grownCap_le_maxLen w _ old E (by omega)
  have hge:∀ old,l.length+x.length≤grownCap w (l.length+x.length) old E:=fun old=>grownCap_ge w _ old E
  have fin:∀ (old:Nat)(row:Option Nat),
    OwnB (w.drew.alloc (.cells ((bvs l).toArray++(bvs x).toArray++Builtin.zeroCells (Value.int .u8 0).cells (grownCap w (l.length+x.length) old E - (l.length+x.length))) E)) base E
     (.slice (some ⟨w.heap.size,0,none⟩) (l.length+x.length) (grownCap w (l.length+x.length) old E)) (l++x) ∧
    w.grownBy (w.drew.alloc (.cells ((bvs l).toArray++(bvs x).toArray++Builtin.zeroCells (Value.int .u8 0).cells (grownCap w (l.length+x.length) old E - (l.length+x.length))) E)) row:=by
   intro old row;refine⟨.inr ⟨w.heap.size,List.replicate (grownCap w (l.length+x.length) old E - (l.length+x.length)) 0,?_,hbase,?_,?_⟩,⟨rfl,rfl,rfl,by simp,fun k hk _=>Below.heap_alloc w.drew _ k (by simpa using hk)⟩⟩
   ·have:=hge old
    simp only[qp,List.length_replicate];congr 1;omega
   ·have:=hge old;have:=hgc old
    simp only[qp,List.length_replicate];omega
   ·have:=Blk.new w.drew E (bvs l++bvs x++bvs (List.replicate (grownCap w (l.length+x.length) old E - (l.length+x.length)) 0))
    rw[xtk,List.append_toArray,List.append_toArray];simp only[xd6];exact this
  rcases hown with⟨rfl,rfl⟩ | ⟨g,sp,rfl,hg,hm,hk⟩
  ·have hr:=run_append_nil (P:=P) w T ty E i _ B.t hi hz ad x.length c (bvs x) (by simp[bvs,hsz]) hc hpos (by omega) (by rw[hb];simp only[qs,Nat.zero_add] at hbytes;omega)
   have hf:=fin 0 (Value.ownBlock (.slice none 0 0));simp only[qs,Nat.zero_add,qn,bvs,ql,Array.empty_append] at hf hr ⊢;exact⟨_,_,hr,hf.1,hf.2,.inr rfl⟩
  ·by_cases hroom:x.length≤sp.length
   ·have hrun:=run_append_room (P:=P) w T ty E i B.t hi g l.length (l.length+sp.length) (bvs (l++sp)).toArray hk ad x.length c (bvs x) (by simp[bvs,hsz]) hc (xb0 _) (by omega) (by simp[bvs,hsz];omega)
    refine⟨_,_,hrun,.inr ⟨g,sp.drop x.length,?_,hg,?_,?_⟩,xdv w g _,.inl rfl⟩
    ·simp only[qp,List.length_drop]
     congr 1;omega
    ·simp only[qp,List.length_drop]
     omega
    ·have:=hk.row (bvs (l++x++sp.drop x.length))
     have e:((bvs (l++sp)).toArray.toList.take (l.length*i.size)++bvs x++(bvs (l++sp)).toArray.toList.drop (l.length*i.size+(bvs x).length))=bvs (l++x++sp.drop x.length):=by
      simp only[bvs,hsz,List.map_append,Nat.mul_one,List.length_map];congr 1
      ·congr 1
       exact List.take_left' (by simp)
      ·rw[List.drop_append,List.map_drop];simp
     rw[e];exact this
   ·have hl:Rd w (aS g) (bvs l):=by rw[xd6] at hk;exact Rd.of_blk0 hk
    have holds:∀ j u,(bvs l)[j]? = some u→w.cell? ((⟨g,0,none⟩:Addr).add j)=some u:=by
     intro j u hu;obtain⟨ad',e,hc'⟩:=hl (by have:=(List.getElem?_eq_some_iff.1 hu).1;omega);cases e;exact hc' j u hu
    have hr:=run_append_grow (P:=P) w T ty E i _ B.t hi hz ⟨g,0,none⟩ l.length (l.length+sp.length) (bvs l) (by simp[bvs,hsz]) holds ad x.length c (bvs x) (by simp[bvs,hsz]) hc (by omega) (by omega) (growslice_fits (by omega) (by rw[hb];omega));have hf:=fin (l.length+sp.length) (Value.ownBlock (.slice (aS g) l.length (l.length+sp.length)));exact⟨_,_,hr,hf.1,hf.2,.inr rfl⟩
theorem xdd(B:BT P T E S)(hgd:o.guard=none)(s x:Operand)(ho:o.op=.call { callee:=.builtin .append,args:=#[s,x],argTypes:=#[T,T] })
  (base:Nat) (v:Value) (l:LU) (hs:a.eval s=v) (hown:OwnB w base E v l) (A:Option Addr) (m c:Nat) (y:LU) (hx:a.eval x=.slice A m c) (hy:y.length=m) (hr:Rd w A (bvs y))
  (hbytes:l.length+m≤140737488355328) (hbase:base≤w.heap.size)
  (h:∀ v' w',OwnB w' base E v' (l++y)→w.grownBy w' v.ownBlock→(v'.ownBlock=v.ownBlock∨v'.ownBlock=some w.heap.size)→wpList P ops Q rest (a.put o.dst v') w'):wpList P ops Q (o::rest) a w:=by
 obtain⟨v',w',hrun,h1,h2,h3⟩:=xh5 B o.type base v l hown A m c y hy hr hbytes hbase;refine X1 ?_;intro K hK;unfold Oper.wp execOp;simp only[ho,resolve,invoke,builtin,Sem.run_bind,Sem.run_pure,Result.andThen_ok,List.map_toArray,qk,ql,hs,hx,hrun];exact hK _ _ (h v' w' h1 h2 h3)
theorem xh6(B:BT P T E S)(A:Option Addr)(n c:Nat)(l:LU)(hr:Rd w A (bvs l))(hl:l.length=n):(convert T S (.slice A n c)).run P w=.ok (.string ⟨l.toArray⟩) w:=by
 rw[run_convert_bytes_string w T S E A n c B.t B.e B.s];subst hl;by_cases h0:l = []
 ·subst h0
  cases A with
  | none=>simp[Conv.bytesToString];rfl
  | some ad=>simp[Conv.bytesToString,loadCells,loadCellsFrom];rfl
 ·obtain⟨ad,rfl,hc⟩:=hr (by rw[xae];exact List.length_pos_iff.2 h0)
  have hload:=run_loadCells_list (P:=P) w ad (bvs l) hc;rw[xae] at hload;have e:bvs l=(l.map fun x:UInt8=>(x.toNat:Int)).map (Value.int .u8):=by simp[bvs,bv]
  rw[e] at hload;rw[run_bytesToString w ad l.length c _ hload];congr 2
  have:∀ (m:LU)(s:ByteArray),(m.map fun x:UInt8=>(x.toNat:Int)).foldl (fun r n=>r.push (UInt8.ofNat n.toNat)) s=⟨(s.data.toList++m).toArray⟩:=by
   intro m
   induction m with
   | nil=>intro s;cases s;simp
   | cons x m ih =>
    intro s;rw[List.map_cons,List.foldl_cons,ih];cases s;simp[ByteArray.push]
  rw[this];simp[ByteArray.empty,ByteArray.emptyWithCapacity];rfl
theorem xbz(B:BT P T E S)(x:Operand)(ho:o.op=.convert T S x)(A:Option Addr)(n c:Nat)(hx:a.eval x=.slice A n c)(l:LU)(hr:Rd w A (bvs l))(hl:l.length=n) :
  (execOp a.eval o).run P w=.ok (.value (.string ⟨l.toArray⟩)) w:=by
 have h:=xh6 (w:=w) B A n c l hr hl;unfold execOp;simp only[ho,hx,Sem.run_bind,h,Result.andThen_ok,Sem.run_pure]
theorem xde(B:BT P T E S)(hgd:o.guard=none)(x:Operand)(ho:o.op=.convert T S x)(A:Option Addr)(n c:Nat)(hx:a.eval x=.slice A n c)(l:LU)(hr:Rd w A (bvs l))(hl:l.length=n)
  (h:wpList P ops Q rest (a.put o.dst (.string ⟨l.toArray⟩)) w):wpList P ops Q (o::rest) a w:=by
 refine X1 ?_;intro K hK;unfold Oper.wp;rw[xbz B x ho A n c hx l hr hl];exact hK _ _ h
end
def cutA(A:Option Addr)(c lo z:Nat):Option Addr:=if c=lo then A else A.map (·.add (lo*z))
structure ST (P:Program)(T E z:Nat):Prop where
 t:P.underlying T=some (.slice E)
 i:(P.info? E).map (fun i=>i.size)=some z
theorem BT.st{P:Program}{T E S:TypeId}(B:BT P T E S):ST P T E 1:=⟨B.t,by
 obtain⟨i,hi,_,hs,_⟩:=info_parts B.i
 rw[hi];simp[hs]⟩
section
variable {P:Program}{T E z:Nat}{w:World}{ops:Array Oper}{rest:List Oper}{o:Oper}{a:Act}{Q:Exit→Act→World→Prop}
theorem ST.size(B:ST P T E z):(sizeOf E).run P w=.ok z w:=by
 have h:=B.i
 cases hq:P.info? E with
 | none=>simp[hq] at h
 | some i =>
  simp[hq] at h;simp[sizeOf,typeInfo,hq,h]
theorem xmw(B:ST P T E z)(A:Option Addr)(n c h:Nat)(k:IntKind)(hh:h≤c):(Instr.slice T (.slice A n c) none (some (.int k (h:Int))) none).run P w=.ok (.slice A h c) w:=by
 have e:P.elem T=E:=by simp[Program.elem,B.t]
 rw[run_slice_h w T A n c (by rw[e];exact B.t) k h (by omega) (by omega),e,B.size];simp only[Result.andThen,sliced]
 have:(if c=0 then A else A.map (·.add (0*z)))=A:=by
  split
  ·rfl
  ·cases A<;>simp[Addr.add]
 simp only[Int.toNat_natCast,this,Nat.sub_zero]
theorem xj5(B:ST P T E z)(A:Option Addr)(n c l:Nat)(k:IntKind)(hl:l≤n):(Instr.slice T (.slice A n c) (some (.int k (l:Int))) none none).run P w=.ok (.slice (cutA A c l z) (n - l) (c - l)) w:=by
 have e:P.elem T=E:=by simp[Program.elem,B.t]
 rw[run_slice_l w T A n c (by rw[e];exact B.t) k l (by omega) (by omega),e,B.size];simp[Result.andThen,sliced,cutA]
theorem xbw(B:ST P T E z)(x hi:Operand)(ho:o.op=.slice T x none (some hi) none)(A:Option Addr)(n c h:Nat)(k:IntKind)(hx:a.eval x=.slice A n c)(hh:a.eval hi=.int k (h:Int))(hb:h≤c) :
  (execOp a.eval o).run P w=.ok (.value (.slice A h c)) w:=by
 have hr:=xmw (w:=w) B A n c h k hb;have e:P.elem T=E:=by simp[Program.elem,B.t]
 unfold execOp;simp only[ho,hx,Option.map_some,hh,Option.map_none,Sem.run_bind,run_sliceAt_slice w T _ _ _ _ (by rw[e];exact B.t),hr,Result.andThen_ok,Sem.run_pure]
theorem xbt(B:ST P T E z)(x lo:Operand)(ho:o.op=.slice T x (some lo) none none)(A:Option Addr)(n c l:Nat)(k:IntKind)(hx:a.eval x=.slice A n c)(hh:a.eval lo=.int k (l:Int))(hb:l≤n) :
  (execOp a.eval o).run P w=.ok (.value (.slice (cutA A c l z) (n - l) (c - l))) w:=by
 have hr:=xj5 (w:=w) B A n c l k hb;have e:P.elem T=E:=by simp[Program.elem,B.t]
 unfold execOp;simp only[ho,hx,Option.map_some,hh,Option.map_none,Sem.run_bind,run_sliceAt_slice w T _ _ _ _ (by rw[e];exact B.t),hr,Result.andThen_ok,Sem.run_pure]
theorem xaa(hgd:o.guard=none)(v:Value)(hr:(execOp a.eval o).run P w=.ok (.value v) w)(h:wpList P ops Q rest (a.put o.dst v) w):wpList P ops Q (o::rest) a w:=by
 refine X1 ?_;intro K hK;unfold Oper.wp;rw[hr];exact hK _ _ h
theorem Rd.cutA{A:Option Addr}{cs:List Value}{c lo z:Nat}(h:Rd w A cs)(hc:cs.length≤c*z)(m:Nat):Rd w (cutA A c lo z) ((cs.drop (lo*z)).take m):=by
 unfold YtkjjdgnkelchfaaGreat.cutA
 split
 ·rename_i e
  subst e;intro hn;simp at hn;omega
 ·exact h.cut _ _
structure ET (P:Program)(E:TypeId)(zv:Value)(z b:Nat):Prop where
 i:(P.info? E).map (fun i=>(i.zero,i.size,i.bytes))=some (some zv,z,b)
 c:zv.cells.size=z
 p:0<z
theorem xfq{w:World}{base e z n:Nat}{v:Value}{xs:List Value}(h:w.ownsRow base e z v n xs):∃ A c,v=.slice A n c∧n≤c∧c≤maxLen∧Rd w A xs:=by
 obtain⟨hl,h⟩:=h;rcases h with⟨rfl,rfl⟩ | ⟨g,cap,cur,rfl,hg,hh,hn,hm,hs,ht⟩
 ·have:xs = []:=List.eq_nil_of_length_eq_zero (by simpa using hl)
  subst this;exact⟨none,0,rfl,Nat.le_refl _,by simp,Rd.nil _ _⟩
 ·have hb:Blk w g e cur.toList:=by simpa[Blk] using hh
  refine⟨_,cap,rfl,hn,hm,?_⟩;rw[← ht];have:=Rd.of_blk hb 0 (n*z) (by simp;rw[hs];exact Nat.mul_le_mul_right _ hn);simpa using this
structure AT (P:Program)(T:TypeId)(n:Nat):Prop where
 u:∃ d,P.underlying T=some d∧(match d with | .struct _ | .array _ _=>true | _=>false)=true
 i:(P.info? T).map (·.size)=some n
theorem xba{n:Nat}(B:AT P T n)(x:Operand)(ho:o.op=.load T x)(g t:Nat)(cs:List Value)(hx:a.eval x=.pointer (some ⟨g,0,none⟩))(hb:Blk w g t cs)(hn:cs.length=n) :
  (execOp a.eval o).run P w=.ok (.value (.agg cs.toArray)) w:=by
 obtain⟨d,hu,hd⟩:=B.u;unfold execOp;simp only[ho,hx,Instr.loadAt,Instr.sureAddr,Sem.run_bind,Sem.run_pure,Result.andThen_ok,run_loadVar_row w g t T cs.toArray (0,0) d hb hu (by clear hb;cases d<;>simp_all) (by rw[B.i];simp[hn])]
def Sl1(w:World)(v:Value)(l:LU):Prop:=∃ A c,v=.slice A l.length c∧l.length≤c∧Rd w A (bvs l)
def AllRd(w:World)(vs:List Value)(ls:List LU):Prop:=vs.length=ls.length∧∀ (i:Nat)(v:Value)(l:LU),vs[i]? = some v→ls[i]? = some l→Sl1 w v l
theorem AllRd.nil(w:World):AllRd w [] []:=⟨rfl,fun i v l h=>by simp at h⟩
theorem AllRd.cons{w:World}{v:Value}{l:LU}{vs:List Value}{ls:List LU}(h:Sl1 w v l)(hs:AllRd w vs ls):AllRd w (v::vs) (l::ls) :=
 ⟨by simp[hs.1],fun i u k hu hk=>by
  cases i with
  | zero=>simp at hu hk;subst hu;subst hk;exact h
  | succ i=>exact hs.2 i u k (by simpa using hu) (by simpa using hk)⟩
end
end Go.Proofs.YtkjjdgnkelchfaaGreat
namespace Go.Proofs.YtkjjdgnkelchfaaGreat
open Go Go.RowKit Go.ChangeShapes Go.WideShapes Go.ChangeAt Go.Proofs.Tryz
section
variable {H:Type}{enc:TypeId×Value→H}{P:Program}{W:World}{base:Nat}
theorem xi1{z:Int}(h:(Lit.int .u8 z).wf=true):Value.int .u8 z=bv (UInt8.ofNat z.toNat):=by
 have hz:0≤z∧z≤255:=by simpa[Lit.wf,IntKind.min,IntKind.max,IntKind.signed,IntKind.bits] using h
 unfold bv;congr 1;rw[UInt8.toNat_ofNat_of_lt' (by show _<256;omega)];omega
end
end Go.Proofs.YtkjjdgnkelchfaaGreat
namespace Go.Proofs.YtkjjdgnkelchfaaGreat
open Go Go.RowKit Go.Proofs.Tryz
theorem bt:BT prog 25 5 9:=⟨underlying25,underlying5,underlying9,by kernel_rfl⟩
section
variable {P:Program}{ops:Array Oper}{Q:Exit→Act→World→Prop}{S S':World→Prop}{F:Nat→Bool}
def wpF(P:Program)(ops:Array Oper)(Q:Exit→Act→World→Prop)(S:World→Prop)(F:Nat→Bool):Nat→Array Bool→Act→World→Prop
 | 0,listed,a,w=>Region.ready .any ops listed = []∧Q .normal a w
 | fuel+1,listed,a,w =>
  (Region.ready .any ops listed = []→Q .normal a w) ∧
  ∀ i∈Region.ready .any ops listed,wpOp P ops Q i (fun a' w'=>(F i=false→S w')∧wpF P ops Q S F fuel (listed.setIfInBounds i true) a' w') a w
theorem xj6:∀ (fuel:Nat)(listed:Array Bool)(a:Act)(w:World),wpF P ops Q S F fuel listed a w→wpAny P .any ops Q fuel listed a w
 | 0,_,_,_,h=>h
 | fuel+1,_,_,_,h=>⟨h.1,fun i hi=>wpOp_mono (fun a' w' h'=>xj6 fuel _ a' w' h'.2) (h.2 i hi)⟩
theorem xh7{i:Nat}{oi:Oper}{v:Value}(hi:ops[i]? = some oi)(hsel:∀ (j:Nat)(o:Oper) cs b,ops[j]? = some o→o.op≠.select cs b)
  (hQ:∀ c a w,Q (.panic c) (a.put oi.dst v) w→Q (.panic c) a w) :
  ∀ (fuel:Nat)(listed:Array Bool)(a:Act)(w:World),
   (∀ j oj,ops[j]? = some oj→j≠i→listed.getD j true=false→(∀ e∈oj.after,Region.binds .any e=true→e.on≠i)→oi.apart ops oj=true∧F j=false) →
   i∈Region.ready .any ops listed→YieldsIf P ops S oi v a→S w →
   wpF P ops Q S F fuel (listed.setIfInBounds i true) (a.put oi.dst v) w→wpF P ops Q S F (fuel+1) listed a w
 | fuel,listed,a,w,hfree,hr,hy,hS,H=>by
  refine⟨fun h=>(by rw[h] at hr;cases hr),fun j hj=>?_⟩;by_cases hji:j=i
  ·subst hji;exact hy.wpOp hi hS ⟨fun _=>hS,H⟩
  ·cases fuel with
   | zero =>
    have:=ready_mono hj hji;rw[H.1] at this;cases this
   | succ fuel =>
    have h1:=H.2 j (ready_mono hj hji);obtain⟨hjun,oj,hoj,hall⟩:=mem_ready.1 hj
    have hnot:∀ e∈oj.after,Region.binds .any e=true→e.on≠i:=fun e he hb heq=>by
     have h1:=hall e he hb;have h0:=(mem_ready.1 hr).1;rw[heq] at h1;rcases Nat.lt_or_ge i listed.size with h' | h'
     ·simp[h'] at h0 h1;rw[h0] at h1;cases h1
     ·simp[Array.getElem?_eq_none h'] at h1
    obtain⟨hap,hFj⟩:=hfree j oj hoj hji hjun hnot;have h2:=wpOp_putIf hoj hap (fun cs b=>hsel i oi cs b hi) (fun cs b=>hsel j oj cs b hoj) hQ hy h1
    have hfree':∀ k ok,ops[k]? = some ok→k≠i→(listed.setIfInBounds j true).getD k true=false →
      (∀ e∈ok.after,Region.binds .any e=true→e.on≠i)→oi.apart ops ok=true∧F k=false:=fun k ok hk hki hun hno=>by
     refine hfree k ok hk hki ?_ hno;by_cases hjk:j=k
     ·subst hjk;exact hjun
     ·rw[getD_set_ne true hjk] at hun;exact hun
    refine wpOp_mono (fun a' w' h3=>⟨h3.2.1,xh7 hi hsel hQ fuel (listed.setIfInBounds j true) a' w' hfree' (ready_mono hr (Ne.symm hji)) h3.1 (h3.2.1 hFj) ?_⟩) h2;rw[Array.setIfInBounds_comm _ _ hji];exact h3.2.2
def freeF(ops:Array Oper)(F:Nat→Bool)(listed:Array Bool)(i:Nat):Bool :=
 match ops[i]? with
 | none=>false
 | some oi=>(Region.ready .any ops listed).contains i&&Region.noSelect ops&&(List.range ops.size).all fun j=>j==i || listed.getD j true || match ops[j]? with
   | some oj=>oj.after.any (fun e=>Region.binds .any e&&e.on==i) || (oi.apart ops oj&&!F j)
   | none=>true
theorem xj7{i:Nat}{oi:Oper}{listed:Array Bool}(hi:ops[i]? = some oi)(h:freeF ops F listed i=true) :
  i∈Region.ready .any ops listed∧Region.noSelect ops=true∧∀ (j:Nat)(oj:Oper),ops[j]? = some oj→j≠i→listed.getD j true=false →
   (∀ e∈oj.after,Region.binds .any e=true→e.on≠i)→oi.apart ops oj=true∧F j=false:=by
 simp only[freeF,hi,Bool.and_eq_true,List.all_eq_true,List.mem_range] at h;refine⟨by simpa using h.1.1,h.1.2,fun j oj hj hne hun hno=>?_⟩;have h1:=h.2 j (Array.getElem?_eq_some_iff.1 hj).1;simp only[hj,Bool.or_eq_true,beq_iff_eq,hne,false_or,hun,Bool.false_eq_true,Bool.and_eq_true,Bool.not_eq_true'] at h1;rcases h1 with h1 | h1
 ·obtain⟨e,he,hb⟩:=Array.any_eq_true'.1 h1
  simp only[Bool.and_eq_true,beq_iff_eq] at hb;exact absurd hb.2 (hno e he hb.1)
 ·exact h1
def listed(n:Nat):List Nat→Array Bool
 | []=>Array.replicate n false
 | i::dn=>(listed n dn).setIfInBounds i true
def xec(ops:Array Oper)(F pl:List Nat):List Nat→List Nat→Bool
 | _,[]=>true
 | dn,i::ord=>(if pl.contains i then Region.ready .any ops (listed ops.size dn)==[i] else freeF ops (F.contains ·) (listed ops.size dn) i)&&xec ops F pl (i::dn) ord
def wpT(P:Program)(ops:Array Oper)(Q:Exit→Act→World→Prop)(S:World→Prop)(F pl:List Nat)(g:Nat)(dn:List Nat)(rest:List (Nat×Oper))(a:Act)(w:World):Prop :=
 (∀ x∈rest,ops[x.1]? = some x.2)→xec ops F pl dn (rest.map (·.1))=true→(∀ c (a a':Act) w,a'.defers=a.defers→Q (.panic c) a' w→Q (.panic c) a w) →
  wpF P ops Q S (F.contains ·) (rest.length+g) (listed ops.size dn) a w
def pick(l:List Oper)(ord:List Nat):List (Nat×Oper):=ord.map fun i=>(i,l.getD i default)
theorem xoi(l:List Oper)(ord:List Nat):(pick l ord).map (·.1)=ord:=by simp[pick,Function.comp_def]
theorem xjj{l:List Oper}{ord:List Nat}(h:ord.all (· < l.length)=true):∀ x∈pick l ord,l.toArray[x.1]? = some x.2:=fun x hx=>by
 obtain⟨i,hi,rfl⟩:=List.mem_map.1 hx;have hlt:i<l.length:=by simpa using List.all_eq_true.1 h i hi
 simp[hlt]
theorem xoj(a:Act)(d:Option Tmp)(v:Value):(a.put d v).defers=a.defers:=by cases d<;>rfl
section
variable {F pl:List Nat}{g:Nat}
theorem rg_begin(S:World→Prop)(F pl ord:List Nat)(g:Nat){l:List Oper}{id:Nat}{a:Act}{w:World}(hm:P.follows .mixedOrders=true)
  (hp:(xec l.toArray F pl [] ord&&ord.length+g==l.length&&ord.all (· < l.length))=true) (hQ:∀ c (a a':Act) w,a'.defers=a.defers→Q (.panic c) a' w→Q (.panic c) a w)
  (h:wpT P l.toArray Q S F pl g [] (pick l ord) a w.drew):(Code.region id l.toArray true).wp P Q a w:=by
 simp only[Bool.and_eq_true,beq_iff_eq] at hp;obtain⟨⟨h1,h2⟩,h3⟩:=hp;have h4:=h (xjj h3) (by rw[xoi];exact h1) hQ;have e:(pick l ord).length+g=l.toArray.size:=by simp[pick,h2]
 rw[e] at h4;exact wp_region_any hm (xj6 _ _ _ _ h4)
theorem xab{i:Nat}{dn:List Nat}{o:Oper}{rest:List (Nat×Oper)}{v:Value}{a:Act}{w:World}(hk:pl.contains i=false)(hw:Region.wanted o (yielded ops a.tmps)=true)
  (hS:S w) (hy:∀ w,S w→(execOp a.eval o).run P w=.ok (.value v) w)
  (h:wpT P ops Q S F pl g (i::dn) rest (a.put o.dst v) w):wpT P ops Q S F pl g dn ((i,o)::rest) a w:=by
 intro hr hp hQ;have hi:=hr (i,o) (by simp);simp only[qk,xec,Bool.and_eq_true,hk,Bool.false_eq_true,if_false] at hp;have h1:=h (fun x hx=>hr x (by simp[hx])) hp.2 hQ;obtain⟨g1,g2,g3⟩:=xj7 hi hp.1;rw[show((i,o)::rest).length+g=(rest.length+g)+1 by simp;omega];exact xh7 hi (Region.noSelect_spec g2) (fun c a w hh=>hQ c a _ w (xoj _ _ _) hh) _ _ a w g3 g1 (.inl ⟨hw,hy⟩) hS h1
theorem rg_skip{i:Nat}{dn:List Nat}{o:Oper}{rest:List (Nat×Oper)}{a:Act}{w:World}(hk:pl.contains i=false)(hw:Region.wanted o (yielded ops a.tmps)=false)
  (hS:S w) (h:wpT P ops Q S F pl g (i::dn) rest (a.put o.dst undef) w):wpT P ops Q S F pl g dn ((i,o)::rest) a w:=by
 intro hr hp hQ;have hi:=hr (i,o) (by simp);simp only[qk,xec,Bool.and_eq_true,hk,Bool.false_eq_true,if_false] at hp;have h1:=h (fun x hx=>hr x (by simp[hx])) hp.2 hQ;obtain⟨g1,g2,g3⟩:=xj7 hi hp.1;rw[show((i,o)::rest).length+g=(rest.length+g)+1 by simp;omega];exact xh7 hi (Region.noSelect_spec g2) (fun c a w hh=>hQ c a _ w (xoj _ _ _) hh) _ _ a w g3 g1 (.inr ⟨hw,rfl⟩) hS h1
theorem xc0{i:Nat}{dn:List Nat}{o:Oper}{rest:List (Nat×Oper)}{a:Act}{w:World}(hk:pl.contains i=true)(hw:Region.wanted o (yielded ops a.tmps)=true)
  (h:∀ K:Act→World→Prop,(∀ a' w',(F.contains i=false→S w')→wpT P ops Q S F pl g (i::dn) rest a' w'→K a' w')→o.wp P a w K Q):wpT P ops Q S F pl g dn ((i,o)::rest) a w:=by
 intro hr hp hQ;have hi:=hr (i,o) (by simp);simp only[qk,xec,Bool.and_eq_true,hk,if_true,beq_iff_eq] at hp;rw[show((i,o)::rest).length+g=(rest.length+g)+1 by simp;omega];refine⟨fun h0=>(by rw[hp.1] at h0;cases h0),fun j hj=>?_⟩;rw[hp.1] at hj;obtain rfl:j=i:=by simpa using hj
 unfold wpOp;simp only[hi,hw,if_true];exact .inl (h _ fun a' w' h1 h2=>⟨h1,h2 (fun x hx=>hr x (by simp[hx])) hp.2 hQ⟩)
theorem rg_pass{i:Nat}{dn:List Nat}{o:Oper}{rest:List (Nat×Oper)}{a:Act}{w:World}(hk:pl.contains i=true)(hw:Region.wanted o (yielded ops a.tmps)=false)
  (hS:S w) (h:wpT P ops Q S F pl g (i::dn) rest (a.put o.dst undef) w):wpT P ops Q S F pl g dn ((i,o)::rest) a w:=by
 intro hr hp hQ;have hi:=hr (i,o) (by simp);simp only[qk,xec,Bool.and_eq_true,hk,if_true,beq_iff_eq] at hp;rw[show((i,o)::rest).length+g=(rest.length+g)+1 by simp;omega];refine⟨fun h0=>(by rw[hp.1] at h0;cases h0),fun j hj=>?_⟩;rw[hp.1] at hj;obtain rfl:j=i:=by simpa using hj
 unfold wpOp;simp only[hi,hw,Bool.false_eq_true,if_false];exact⟨fun _=>hS,h (fun x hx=>hr x (by simp[hx])) hp.2 hQ⟩
theorem rg_done{dn:List Nat}{a:Act}{w:World}(hp:(Region.ready .any ops (listed ops.size dn)==[])=true)(h:Q .normal a w):wpT P ops Q S F pl 0 dn [] a w:=by
 intro _ _ _;exact⟨by simpa using hp,h⟩
end
end
theorem xmx(l:LU)(i:Nat)(x:UInt8):(bvs l).set i (bv x)=bvs (l.set i x):=by simp[bvs,List.map_set]
theorem mixed:prog.follows .mixedOrders=true:=by kernel_rfl
theorem rB(S:World→Prop)(F pl ord:List Nat)(g:Nat){Q:Exit→Act→World→Prop}{l:List Oper}{id:Nat}{a:Act}{w:World}(h:wpT prog l.toArray Q S F pl g [] (pick l ord) a w.drew)
  (hp:(xec l.toArray F pl [] ord&&ord.length+g==l.length&&ord.all (· < l.length))=true:=by kernel_rfl)
  (hQ:∀ c (a a':Act) w,a'.defers=a.defers→Q (.panic c) a' w→Q (.panic c) a w:=by exact fun _ _ _ _ e hh=>⟨e.symm.trans hh.1,hh.2⟩):(Code.region id l.toArray true).wp prog Q a w:=rg_begin S F pl ord g mixed hp hQ h
theorem _root_.Go.World.grownBy.trans'{a b c:World}{row:Option Nat}(h:a.grownBy b row)(k:b.grownBy c row):a.grownBy c row :=
 ⟨k.os.trans h.os,k.tape.trans h.tape,k.output.trans h.output,Nat.le_trans h.size k.size,fun i hi hs=>(k.block i (Nat.lt_of_lt_of_le hi h.size) hs).trans (h.block i hi hs)⟩
theorem xdl(w:World)(g i:Nat)(u:Value):w.grownBy (w.setCell ⟨g,i,none⟩ u) (some g) :=
 ⟨rfl,rfl,rfl,by simp,fun k _ hne=>Below.heap_setCell w ⟨g,i,none⟩ u k (fun e=>hne (by rw[e]))⟩
theorem ret_i{k:IntKind}{a b:Int}(h:a=b):Ending.returned (.int k a)=.returned (.int k b):=by rw[h]
def xf7(x n:Int):Int:=x%n
theorem xlr(x n:Int)(hn:0<n):0≤xf7 x n∧xf7 x n<n:=⟨Int.emod_nonneg _ (by omega),Int.emod_lt_of_pos _ hn⟩
theorem xls(x n:Int)(hn:0<n):(x.tmod n<0→x.tmod n+n=xf7 x n)∧(¬ x.tmod n<0→x.tmod n=xf7 x n):=by
 unfold xf7;have h1:=Int.tmod_eq_emod (a:=x) (b:=n);have h2:=Int.emod_nonneg x (show n≠0 by omega);have h3:=Int.emod_lt_of_pos x hn;rw[h1];by_cases hx:0≤x∨n∣x
 ·simp only[hx,if_true];constructor<;>intro h<;>omega
 ·simp only[hx,if_false,Int.natAbs_of_nonneg (Int.le_of_lt hn)];constructor<;>intro h<;>omega
theorem pick_any(x n:Int)(w:World)(hn:0<n)(hn':n≤9223372036854775807)(hx : -9223372036854775808≤x∧x≤9223372036854775807) :
   Calls prog 22 #[iV x,iV n] w fun e w'=>e=.returned (iV (xf7 x n))∧w=w':=by
 have h:=hZ (xls x n hn);have hb:=Int.tmod_lt_of_pos x hn
 have hb' : -n≤x.tmod n:=by
  by_cases hh:x.tmod n<0
  ·have h1:=(xls x n hn).1 hh
   have h2:=(xlr x n hn).1;omega
  ·omega
 have h0:(n==0)=false:=by simp;omega
 go_enter func22,ntmps22
 go_wp2
 all_goals go_ret
 ·exact⟨ret_i (h.out.1 (by assumption)),rfl⟩
 ·exact⟨ret_i (h.out.2 (by omega)),rfl⟩
theorem st24:ST prog 25 5 1:=bt.st
theorem xje(ls:List LU)(k:Nat):(ls.take k).flatten.length≤ls.flatten.length:=by
 induction ls generalizing k with
 | nil=>simp
 | cons l ls ih =>
  cases k with
  | zero=>simp
  | succ k=>have:=ih k;simp;simp at this;exact this
theorem xe6(ls:List LU)(k:Nat)(h:k<ls.length):(ls.take (k+1)).flatten=(ls.take k).flatten++ls[k]:=by
 rw[List.take_succ_eq_append_getElem h,List.flatten_append];simp only[List.flatten_cons,List.flatten_nil,qu]
theorem xh8(ls:List LU)(k:Nat)(h:k<ls.length):(ls.take k).flatten.length+ls[k].length≤ls.flatten.length:=by
 have:=xje ls (k+1);rw[xe6 ls k h] at this;simpa using this
theorem Rd.one_blk{w:World}{g t:Nat}{u:Value}(h:Blk w g t [u]):Rd w (aS g) [u]:=Rd.of_blk0 (es:=[]) (by simpa using h)
def arr8(k:LU):Value:=.agg (bvs k).toArray
def be:Nat→Nat→LU
 | 0,_=>[]
 | n+1,v=>be n (v / 256)++[UInt8.ofNat v]
theorem xca(n v:Nat):(be n v).length=n:=by induction n generalizing v<;>simp[be, *]
def putL(n:Nat)(m v:Int):LU:=if 0≤v∧v≤m then be n v.toNat else []
def putE(m v:Int):Int:=if 0≤v∧v≤m then 0 else 2
theorem bv_wrap(z:Int)(h:0≤z):Value.int .u8 (IntKind.u8.wrap z)=bv (UInt8.ofNat z.toNat):=by
 unfold bv;congr 1;rw[IntKind.wrap_u8,UInt8.toNat_ofNat'];omega
theorem xg5(z:Int)(h:0≤z):Value.int .u8 (z%256)=bv (UInt8.ofNat z.toNat):=by
 rw[← bv_wrap z h,IntKind.wrap_u8]
theorem xok(z:Int)(h:0≤z)(h':z≤255):Value.int .u8 z=bv (UInt8.ofNat z.toNat):=by
 rw[← xg5 z h,Int.emod_eq_of_lt h (by omega)]
theorem put32(n:Int)(w:World)(hn : -9223372036854775808≤n∧n≤9223372036854775807) :
  Calls prog 77 #[iV n] w fun e w'=>∃ v,e=.returned (.tuple #[v,iV (putE 4294967295 n)])∧OwnB w' w.heap.size 5 v (putL 4 4294967295 n)∧Bw w w':=by
 by_cases h0:n<0
 ·have e1:putE 4294967295 n=2:=by unfold putE;rw[if_neg (by omega)]
  have e2:putL 4 4294967295 n = []:=by unfold putL;rw[if_neg (by omega)]
  rw[e1,e2];clear e1 e2;go_enter func77,ntmps77
  go_wp2
  go_ret2;exact⟨_,rfl,OwnB.nil _ _ _,Below.refl _ _⟩
 ·by_cases h1:4294967295<n
  ·have e1:putE 4294967295 n=2:=by unfold putE;rw[if_neg (by omega)]
   have e2:putL 4 4294967295 n = []:=by unfold putL;rw[if_neg (by omega)]
   rw[e1,e2];clear e1 e2;go_enter func77,ntmps77
   go_wp2
   go_ret2;exact⟨_,rfl,OwnB.nil _ _ _,Below.refl _ _⟩
  ·have e1:putE 4294967295 n=0:=by unfold putE;rw[if_pos (by omega)]
   have e2:putL 4 4294967295 n = [UInt8.ofNat (n / 16777216).toNat,UInt8.ofNat (n / 65536).toNat,UInt8.ofNat (n / 256).toNat,UInt8.ofNat n.toNat]:=by
    unfold putL;rw[if_pos (by omega)];have a1:n.toNat / 256=(n / 256).toNat:=by omega
    have a2:(n / 256).toNat / 256=(n / 65536).toNat:=by omega
    have a3:(n / 65536).toNat / 256=(n / 16777216).toNat:=by omega
    simp only[be,a3,a2,a1,qn,qm]
   rw[e1,e2];clear e1 e2;go_enter func77,ntmps77
   go_wp2
   go_ret2;have e:=Blk.new w 5 [bv (UInt8.ofNat (n / 16777216).toNat),bv (UInt8.ofNat (n / 65536).toNat),bv (UInt8.ofNat (n / 256).toNat),bv (UInt8.ofNat n.toNat)];rw[← xg5 n (by omega),← xg5 (n / 256) (by omega),← xg5 (n / 65536) (by omega),← xok (n / 16777216) (by omega) (by omega)] at e;refine⟨_,rfl,.inr ⟨w.heap.size,[],rfl,Nat.le_refl _,by unfold maxLen;simp,?_⟩,(Below.refl _ _).alloc (Nat.le_refl _) _⟩;simp only[bvs,qu,qk,ql];rw[← xg5 n (by omega),← xg5 (n / 256) (by omega),← xg5 (n / 65536) (by omega),← xok (n / 16777216) (by omega) (by omega)];exact e
theorem xrz(j v:Nat):be (j+1) v=UInt8.ofNat (v / 256^j)::be j v:=by
 induction j generalizing v with
 | zero=>simp[be]
 | succ j ih =>
  rw[be,ih,be,Nat.div_div_eq_div_mul,← Nat.pow_succ'];rfl
def nOf(l:LU):Nat:=l.foldl (fun a x=>256*a+x.toNat) 0
theorem xtl(l:LU)(a:Nat):l.foldl (fun a x=>256*a+x.toNat) a=a*256^l.length+nOf l:=by
 induction l generalizing a with
 | nil=>simp[nOf]
 | cons x l ih =>
  have h1:=ih (256*a+x.toNat);have h2:=ih (256*0+x.toNat);unfold nOf at h1 h2 ⊢;simp only[List.foldl_cons,qr];rw[h1,h2,Nat.pow_succ];simp only[Nat.add_mul,Nat.mul_zero,Nat.zero_add,Nat.zero_mul]
  have:256*a*256^l.length=a*(256^l.length*256):=by
   rw[Nat.mul_comm 256 a,Nat.mul_assoc,Nat.mul_comm 256]
  omega
theorem xj8(l m:LU):nOf (l++m)=nOf l*256^m.length+nOf m:=by
 unfold nOf;rw[List.foldl_append,xtl];rfl
theorem xha(x:UInt8)(l:LU):nOf (x::l)=x.toNat*256^l.length+nOf l:=by
 have:=xj8 [x] l;simpa[nOf] using this
theorem xmy(l:LU):nOf l<256^l.length:=by
 induction l with
 | nil=>simp[nOf]
 | cons x l ih =>
  rw[xha,List.length_cons,Nat.pow_succ];have hx:=x.toNat_lt;have h1:x.toNat*256^l.length≤255*256^l.length:=Nat.mul_le_mul_right _ (by omega);omega
theorem xqe(l:LU):be l.length (nOf l)=l:=by
 induction l with
 | nil=>rfl
 | cons x l ih =>
  rw[List.length_cons,xrz,xha];have hp:0<256^l.length:=Nat.pow_pos (by omega)
  have h1:(x.toNat*256^l.length+nOf l) / 256^l.length=x.toNat:=by
   rw[Nat.mul_comm,Nat.mul_add_div hp,Nat.div_eq_of_lt (xmy l)];omega
  have h2:be l.length (x.toNat*256^l.length+nOf l)=be l.length (nOf l):=by
   have:∀ n a b,be n (a*256^n+b)=be n b:=by
    intro n
    induction n with
    | zero=>intro a b;rfl
    | succ n ih =>
     intro a b;rw[be,be]
     have e1:(a*256^(n+1)+b) / 256=a*256^n+b / 256:=by
      rw[Nat.pow_succ,← Nat.mul_assoc,Nat.mul_comm _ 256,Nat.mul_add_div (by omega)]
     have e2:UInt8.ofNat (a*256^(n+1)+b)=UInt8.ofNat b:=by
      apply UInt8.toNat_inj.1;rw[UInt8.toNat_ofNat',UInt8.toNat_ofNat',Nat.pow_succ,← Nat.mul_assoc];omega
     rw[e1,e2,ih]
   exact this _ _ _
  rw[h1,h2,ih,UInt8.ofNat_toNat]
theorem nOf_be(n v:Nat):nOf (be n v)=v%256^n:=by
 induction n generalizing v with
 | zero=>simp[be,nOf,Nat.mod_one]
 | succ n ih =>
  rw[be,xj8,ih];have:nOf [UInt8.ofNat v]=v%256:=by simp[nOf,UInt8.toNat_ofNat']
  rw[this,List.length_singleton,Nat.pow_one,Nat.pow_succ,Nat.mul_comm (256^n) 256,Nat.mod_mul];omega
theorem xjk{l m:LU}(h:l.length=m.length)(e:nOf l=nOf m):l=m:=by
 rw[← xqe l,← xqe m,h,e]
def tb(p:LU)(d:Nat):Bool:=((p.getD (d / 8) 0).toNat).testBit (7 - d%8)
theorem getD_be(n v i:Nat)(h:i<n):(be n v).getD i 0=UInt8.ofNat (v / 256^(n - 1 - i)):=by
 induction n generalizing i with
 | zero=>omega
 | succ n ih =>
  rw[xrz]
  cases i with
  | zero=>simp
  | succ i =>
   rw[List.getD_cons_succ,ih i (by omega)];congr 3;omega
theorem xdw(p:LU)(hp:p.length=32)(d:Nat)(hd:d<256):tb p d=(nOf p).testBit (255 - d):=by
 have e:=xqe p;rw[hp] at e
 have h1:p.getD (d / 8) 0=UInt8.ofNat (nOf p / 256^(31 - d / 8)):=by
  have:=getD_be 32 (nOf p) (d / 8) (by omega);rwa [e] at this
 have h2:(256:Nat)^(31 - d / 8)=2^(8*(31 - d / 8)):=by rw[Nat.pow_mul]
 have h3:(UInt8.ofNat (nOf p / 256^(31 - d / 8))).toNat=nOf p / 2^(8*(31 - d / 8))%2^8:=by rw[UInt8.toNat_ofNat',h2]
 have h4:decide (7 - d%8<8)=true:=by simp;omega
 have h5:7 - d%8+8*(31 - d / 8)=255 - d:=by omega
 unfold tb;rw[h1,h3,Nat.testBit_mod_two_pow,Nat.testBit_div_two_pow,h4,h5,Bool.true_and]
theorem xeh{p:LU}(hp:p.length=32):nOf p<2^256:=by
 have:=xmy p;rw[hp] at this;rwa [show(256:Nat)^32=2^256 by decide +kernel] at this
theorem xmz{p q:LU}(hp:p.length=32)(hq:q.length=32)(h:∀ d,d<256→tb p d=tb q d):p=q:=by
 apply xjk (by omega);apply Nat.eq_of_testBit_eq;intro j;by_cases hj:j<256
 ·have:=h (255 - j) (by omega)
  rw[xdw p hp _ (by omega),xdw q hq _ (by omega)] at this;rwa [show 255 - (255 - j)=j by omega] at this
 ·have hle:2^256≤2^j:=Nat.pow_le_pow_right (by omega) (by omega)
  rw[Nat.testBit_lt_two_pow (Nat.lt_of_lt_of_le (xeh hp) hle),Nat.testBit_lt_two_pow (Nat.lt_of_lt_of_le (xeh hq) hle)]
theorem key_of{p:LU}(hp:p.length=32){n:Nat}(hn:n<2^256)(h:∀ d,d<256→tb p d=n.testBit (255 - d)):p=be 32 n:=by
 apply xmz hp (xca _ _);intro d hd;rw[h d hd,xdw _ (xca _ _) d hd,nOf_be,show(256:Nat)^32=2^256 by decide +kernel,Nat.mod_eq_of_lt hn]
theorem nOf_key{n:Nat}(hn:n<2^256):nOf (be 32 n)=n:=by
 rw[nOf_be,show(256:Nat)^32=2^256 by decide +kernel,Nat.mod_eq_of_lt hn]
def bitZ(p:LU)(d:Int):Int:=if 0≤d∧d<256 then ((tb p d.toNat).toNat:Int) else -1
def comm(p q:LU):Nat:=(List.range 256).findIdx fun d=>tb p d != tb q d
theorem xr0(p q:LU):comm p q≤256:=by
 have:=List.findIdx_le_length (xs:=List.range 256) (p:=fun d=>tb p d != tb q d);simpa[comm] using this
theorem xgm(p q:LU)(d:Nat)(h:d<comm p q):tb p d=tb q d:=by
 have h1:=List.not_of_lt_findIdx (p:=fun d=>tb p d != tb q d) (xs:=List.range 256) h;simpa using h1
theorem xc1(p q:LU)(h:comm p q<256):tb p (comm p q)≠tb q (comm p q):=by
 have h1:=List.findIdx_getElem (p:=fun d=>tb p d != tb q d) (xs:=List.range 256) (w:=by simpa[comm] using h);have h2:(List.range 256)[(List.range 256).findIdx fun d=>tb p d != tb q d]'(by simpa[comm] using h)=comm p q:=by simp[comm]
 rw[h2] at h1;simpa using h1
theorem xr1(p q:LU)(c:Nat)(h:c≤256)(h1:∀ d,d<c→tb p d=tb q d)(h2:c<256→tb p c≠tb q c):comm p q=c:=by
 rcases Nat.lt_trichotomy (comm p q) c with hlt | he | hgt
 ·exact absurd (h1 _ hlt) (xc1 p q (by omega))
 ·exact he
 ·have:=xr0 p q
  exact absurd (xgm p q c hgt) (h2 (by omega))
theorem xtm(p:LU):comm p p=256:=xr1 p p 256 (by omega) (fun _ _=>rfl) (fun h=>by omega)
theorem comm_all{p q:LU}(hp:p.length=32)(hq:q.length=32)(h:comm p q=256):p=q:=xmz hp hq fun d hd=>xgm p q d (by omega)
theorem comm_ge{p q:LU}(hp:p.length=32)(hq:q.length=32)(d:Nat)(hd:d≤256):d≤comm p q↔nOf p / 2^(256 - d)=nOf q / 2^(256 - d):=by
 constructor
 ·intro h
  apply Nat.eq_of_testBit_eq;intro j;rw[Nat.testBit_div_two_pow,Nat.testBit_div_two_pow,Nat.add_comm j];by_cases hj:256 - d+j<256
  ·have:=xgm p q (255 - (256 - d+j)) (by omega)
   rw[xdw p hp _ (by omega),xdw q hq _ (by omega)] at this;rwa [show 255 - (255 - (256 - d+j))=256 - d+j by omega] at this
  ·have hle:2^256≤2^(256 - d+j):=Nat.pow_le_pow_right (by omega) (by omega)
   rw[Nat.testBit_lt_two_pow (Nat.lt_of_lt_of_le (xeh hp) hle),Nat.testBit_lt_two_pow (Nat.lt_of_lt_of_le (xeh hq) hle)]
 ·intro h
  apply Nat.le_of_not_lt;intro hlt;have hc:=xc1 p q (by omega);apply hc;rw[xdw p hp _ (by omega),xdw q hq _ (by omega)]
  have e:∀ n:Nat,n.testBit (255 - comm p q)=(n / 2^(256 - d)).testBit (255 - comm p q - (256 - d)):=by
   intro n;rw[Nat.testBit_div_two_pow];congr 1;omega
  rw[e,e,h]
def cmpZ(a b:Nat):Int:=if a<b then -1 else if b<a then 1 else 0
theorem xi2:∀ (p q:LU),p.length=q.length→Lib.compareBytes p q=cmpZ (nOf p) (nOf q)
 | [],[],_=>rfl
 | [],_::_,h=>by simp at h
 | _::_,[],h=>by simp at h
 | x::l,y::m,h=>by
  have hl:l.length=m.length:=by simpa using h
  rw[Lib.compareBytes,xha,xha,← hl];have h1:=xmy l;have h2:=xmy m;rw[← hl] at h2;by_cases hxy:x<y
  ·rw[if_pos hxy]
   have:x.toNat+1≤y.toNat:=hxy;have h3:(x.toNat+1)*256^l.length≤y.toNat*256^l.length:=Nat.mul_le_mul_right _ this;rw[Nat.add_mul] at h3;unfold cmpZ;rw[if_pos (by omega)]
  ·rw[if_neg hxy]
   by_cases hyx:y<x
   ·rw[if_pos hyx]
    have:y.toNat+1≤x.toNat:=hyx;have h3:(y.toNat+1)*256^l.length≤x.toNat*256^l.length:=Nat.mul_le_mul_right _ this;rw[Nat.add_mul] at h3;unfold cmpZ;rw[if_neg (by omega),if_pos (by omega)]
   ·rw[if_neg hyx]
    have:x.toNat=y.toNat:=by
     have a1 : ¬ x.toNat<y.toNat:=hxy;have a2 : ¬ y.toNat<x.toNat:=hyx;omega
    rw[this,xi2 l m hl];unfold cmpZ;by_cases ha:nOf l<nOf m
    ·rw[if_pos ha,if_pos (by omega)]
    ·by_cases hb:nOf m<nOf l
     ·rw[if_neg ha,if_pos hb,if_neg (by omega),if_pos (by omega)]
     ·rw[if_neg ha,if_neg hb,if_neg (by omega),if_neg (by omega)]
def xhb(n d:Nat)(b:Bool):Nat:=2^(256 - d)*(n / 2^(256 - d))+(if b then 2^(256 - d) - 1 else 0)
theorem xj9(d:Nat)(b:Bool):(if b then 2^(256 - d) - 1 else 0)<2^(256 - d):=by
 have:0<2^(256 - d):=Nat.pow_pos (by omega)
 split<;>omega
theorem xtn(n d:Nat)(b:Bool):xhb n d b / 2^(256 - d)=n / 2^(256 - d):=by
 unfold xhb;rw[Nat.mul_add_div (Nat.pow_pos (by omega)),Nat.div_eq_of_lt (xj9 d b)];omega
theorem xol(n d:Nat)(b:Bool)(hn:n<2^256)(hd:d≤256):xhb n d b<2^256:=by
 have h1:xhb n d b / 2^(256 - d)<2^d:=by
  rw[xtn];apply Nat.div_lt_of_lt_mul;rw[← Nat.pow_add,show 256 - d+d=256 by omega];exact hn
 have h2:=(Nat.div_lt_iff_lt_mul (Nat.pow_pos (n:=256 - d) (show 0<2 by omega))).1 h1;rwa [← Nat.pow_add,show d+(256 - d)=256 by omega] at h2
theorem xlt(n d:Nat)(b:Bool)(e:Nat)(he:e<256)(hd:d≤256):(xhb n d b).testBit (255 - e)=if e<d then n.testBit (255 - e) else b:=by
 unfold xhb;rw[Nat.testBit_two_pow_mul_add _ (xj9 d b)];by_cases h:e<d
 ·rw[if_neg (by omega),if_pos h,Nat.testBit_div_two_pow]
  congr 1;omega
 ·rw[if_pos (by omega),if_neg h]
  cases b
  ·simp
  ·simp only[if_true]
   rw[Nat.testBit_two_pow_sub_one]
   simp;omega
def xlu(n d:Nat):Nat:=n ^^^ 2^(255 - d)
theorem xlv(n d e:Nat)(he:e<256)(hd:d<256):(xlu n d).testBit (255 - e)=if e=d then !n.testBit (255 - e) else n.testBit (255 - e):=by
 unfold xlu;rw[Nat.testBit_xor,Nat.testBit_two_pow];by_cases h:e=d
 ·subst h;simp
 ·rw[if_neg h]
  have:decide (255 - d=255 - e)=false:=by simp;omega
  rw[this];simp
theorem xom(n d:Nat)(hn:n<2^256)(hd:d<256):xlu n d<2^256 :=
 Nat.xor_lt_two_pow hn (Nat.pow_lt_pow_right (by omega) (by omega))
end Go.Proofs.YtkjjdgnkelchfaaGreat
namespace Go.Proofs.YtkjjdgnkelchfaaGreat
def fz{α:Type}(n:Nat)(k:Nat→α):α:=match n with
 | 0=>k 0
 | n+1=>k (n+1)
theorem fz_eq{α:Type}(n:Nat)(k:Nat→α):fz n k=k n:=by cases n<;>rfl
def shaK:List Nat:=[0x428a2f98,0x71374491,0xb5c0fbcf,0xe9b5dba5,0x3956c25b,0x59f111f1,0x923f82a4,0xab1c5ed5,
  0xd807aa98,0x12835b01,0x243185be,0x550c7dc3,0x72be5d74,0x80deb1fe,0x9bdc06a7,0xc19bf174,
  0xe49b69c1,0xefbe4786,0x0fc19dc6,0x240ca1cc,0x2de92c6f,0x4a7484aa,0x5cb0a9dc,0x76f988da,
  0x983e5152,0xa831c66d,0xb00327c8,0xbf597fc7,0xc6e00bf3,0xd5a79147,0x06ca6351,0x14292967,
  0x27b70a85,0x2e1b2138,0x4d2c6dfc,0x53380d13,0x650a7354,0x766a0abb,0x81c2c92e,0x92722c85,
  0xa2bfe8a1,0xa81a664b,0xc24b8b70,0xc76c51a3,0xd192e819,0xd6990624,0xf40e3585,0x106aa070,
  0x19a4c116,0x1e376c08,0x2748774c,0x34b0bcb5,0x391c0cb3,0x4ed8aa4a,0x5b9cca4f,0x682e6ff3,
  0x748f82ee,0x78a5636f,0x84c87814,0x8cc70208,0x90befffa,0xa4506ceb,0xbef9a3f7,0xc67178f2]
def shaH:List Nat:=[0x6a09e667,0xbb67ae85,0x3c6ef372,0xa54ff53a,0x510e527f,0x9b05688c,0x1f83d9ab,0x5be0cd19]
theorem xf8:shaK.length=64:=rfl
theorem shaH_lt:∀ x∈shaH,x<4294967296:=by decide +kernel
def ad(a b:Nat):Nat:=(a+b)%4294967296
theorem xbr(a b:Nat):ad a b<4294967296:=Nat.mod_lt _ (by omega)
def rotr(x n:Nat):Nat:=Nat.lor (x / 2^n) (x*2^(32 - n)%4294967296)
theorem xa0(x n:Nat)(hx:x<4294967296):rotr x n<4294967296 :=
 Nat.or_lt_two_pow (n:=32) (Nat.lt_of_le_of_lt (Nat.div_le_self _ _) hx) (Nat.mod_lt _ (by omega))
theorem xaq{a b:Nat}(ha:a<4294967296)(hb:b<4294967296):a ^^^ b<4294967296:=Nat.xor_lt_two_pow (n:=32) ha hb
theorem xar{a b:Nat}(ha:a<4294967296):a &&& b<4294967296:=Nat.lt_of_le_of_lt Nat.and_le_left ha
theorem xas{a:Nat}(n:Nat)(ha:a<4294967296):a / n<4294967296:=Nat.lt_of_le_of_lt (Nat.div_le_self _ _) ha
def sg0(x:Nat):Nat:=rotr x 7 ^^^ rotr x 18 ^^^ (x / 8)
def sg1(x:Nat):Nat:=rotr x 17 ^^^ rotr x 19 ^^^ (x / 1024)
def bs1(x:Nat):Nat:=rotr x 6 ^^^ rotr x 11 ^^^ rotr x 25
def bs0(x:Nat):Nat:=rotr x 2 ^^^ rotr x 13 ^^^ rotr x 22
def chx(e f g:Nat):Nat:=(e &&& f) ^^^ ((4294967295 - e) &&& g)
def maj(a b c:Nat):Nat:=(a &&& b) ^^^ (a &&& c) ^^^ (b &&& c)
def one(e f g h k w:Nat):Nat:=ad (ad (ad (ad h (bs1 e)) (chx e f g)) k) w
def two(a b c:Nat):Nat:=ad (bs0 a) (maj a b c)
def rnds:List Nat→List Nat→Nat→Nat→Nat→Nat→Nat→Nat→Nat→Nat→List Nat
 | k::ks,w::ws,a,b,c,d,e,f,g,h =>
  fz (one e f g h k w) fun x=>fz (ad x (two a b c)) fun y=>fz (ad d x) fun z=>rnds ks ws y a b c z e f g
 | _,_,a,b,c,d,e,f,g,h=>[a,b,c,d,e,f,g,h]
theorem xlw(k w:Nat)(ks ws:List Nat)(a b c d e f g h:Nat):rnds (k::ks) (w::ws) a b c d e f g h=rnds ks ws (ad (one e f g h k w) (two a b c)) a b c (ad d (one e f g h k w)) e f g:=by
 rw[rnds];simp only[fz_eq]
theorem rnds_at(ws:List Nat)(hw:ws.length=64)(t:Nat)(ht:t<64)(a b c d e f g h:Nat) :
  rnds (shaK.drop t) (ws.drop t) a b c d e f g h=rnds (shaK.drop (t+1)) (ws.drop (t+1)) (ad (one e f g h (shaK.getD t 0) (ws.getD t 0)) (two a b c)) a b c (ad d (one e f g h (shaK.getD t 0) (ws.getD t 0))) e f g:=by
 have h1:t<shaK.length:=by rw[xf8];exact ht
 have h2:t<ws.length:=by omega
 have g1:shaK.getD t 0=shaK[t]:=by rw[List.getD_eq_getElem?_getD,List.getElem?_eq_getElem h1,Option.getD_some]
 have g2:ws.getD t 0=ws[t]:=by rw[List.getD_eq_getElem?_getD,List.getElem?_eq_getElem h2,Option.getD_some]
 rw[List.drop_eq_getElem_cons h1,List.drop_eq_getElem_cons h2,xlw,g1,g2]
theorem rnds_end(ws:List Nat)(hw:ws.length=64)(a b c d e f g h:Nat):rnds (shaK.drop 64) (ws.drop 64) a b c d e f g h = [a,b,c,d,e,f,g,h]:=by
 rw[List.drop_eq_nil_of_le (by rw[xf8];omega)];rfl
def nw(w:List Nat):Nat:=ad (ad (ad (sg1 (w.getD (w.length - 2) 0)) (w.getD (w.length - 7) 0)) (sg0 (w.getD (w.length - 15) 0))) (w.getD (w.length - 16) 0)
def ext:Nat→List Nat→List Nat
 | 0,w=>w
 | k+1,w=>fz (nw w) fun n=>ext k (w++[n])
theorem xon(k:Nat)(w:List Nat):ext (k+1) w=ext k (w++[nw w]):=by rw[ext,fz_eq]
theorem xqf(k:Nat)(w:List Nat):(ext k w).length=w.length+k:=by
 induction k generalizing w with
 | zero=>rfl
 | succ k ih=>rw[xon,ih];simp;omega
def xfr(b:LU)(i:Nat):Nat:=(b.getD (4*i) 0).toNat*16777216+(b.getD (4*i+1) 0).toNat*65536+(b.getD (4*i+2) 0).toNat*256+(b.getD (4*i+3) 0).toNat
theorem xto(b:LU)(i:Nat):xfr b i<4294967296:=by
 unfold xfr;have h0:=(b.getD (4*i) 0).toNat_lt;have h1:=(b.getD (4*i+1) 0).toNat_lt;have h2:=(b.getD (4*i+2) 0).toNat_lt;have h3:=(b.getD (4*i+3) 0).toNat_lt;omega
def first:Nat→LU→List Nat
 | 0,_=>[]
 | i+1,b=>first i b++[xfr b i]
theorem xdx(i:Nat)(b:LU):(first i b).length=i:=by induction i<;>simp[first, *]
theorem first_lt(i:Nat)(b:LU):∀ x∈first i b,x<4294967296:=by
 induction i with
 | zero=>intro x hx;simp[first] at hx
 | succ i ih =>
  intro x hx;rcases List.mem_append.1 hx with hx | hx
  ·exact ih x hx
  ·rw[List.mem_singleton.1 hx];exact xto b i
def xh9:List Nat→List Nat→List Nat
 | [],r=>r
 | x::l,r=>fz x fun x=>xh9 l (r++[x])
theorem xlx(l r:List Nat):xh9 l r=r++l:=by
 induction l generalizing r with
 | nil=>simp[xh9]
 | cons x l ih=>rw[xh9,fz_eq,ih];simp
def xf9(b:LU):List Nat:=ext 48 (xh9 (first 16 b) [])
theorem xoo(b:LU):xf9 b=ext 48 (first 16 b):=by unfold xf9;rw[xlx];rfl
theorem xep(b:LU):(xf9 b).length=64:=by rw[xoo,xqf,xdx]
def step(h:List Nat)(b:LU):List Nat :=
 match h with
 | [a0,a1,a2,a3,a4,a5,a6,a7]=>xh9 (List.zipWith ad h (rnds shaK (xf9 b) a0 a1 a2 a3 a4 a5 a6 a7)) []
 | _=>[0,0,0,0,0,0,0,0]
theorem xi3(ks ws:List Nat)(a b c d e f g h:Nat):(rnds ks ws a b c d e f g h).length=8:=by
 induction ks generalizing ws a b c d e f g h with
 | nil=>rfl
 | cons k ks ih =>
  cases ws with
  | nil=>rfl
  | cons w ws=>rw[xlw];exact ih _ _ _ _ _ _ _ _ _
theorem eight{h:List Nat}(hl:h.length=8):∃ a0 a1 a2 a3 a4 a5 a6 a7,h = [a0,a1,a2,a3,a4,a5,a6,a7]:=by
 match h,hl with
 | [a0,a1,a2,a3,a4,a5,a6,a7],_=>exact⟨_,_,_,_,_,_,_,_,rfl⟩
theorem xm0(a0 a1 a2 a3 a4 a5 a6 a7:Nat)(b:LU):step [a0,a1,a2,a3,a4,a5,a6,a7] b=List.zipWith ad [a0,a1,a2,a3,a4,a5,a6,a7] (rnds shaK (xf9 b) a0 a1 a2 a3 a4 a5 a6 a7):=by
 rw[step,xlx,List.nil_append]
theorem xka{h:List Nat}{b:LU}(hh:h.length≠8):step h b = [0,0,0,0,0,0,0,0]:=by
 rw[step];intro a0 a1 a2 a3 a4 a5 a6 a7 e;subst e;exact hh rfl
theorem xop(h:List Nat)(b:LU):(step h b).length=8:=by
 by_cases hh:h.length=8
 ·obtain⟨a0,a1,a2,a3,a4,a5,a6,a7,rfl⟩:=eight hh
  rw[xm0,List.length_zipWith,xi3];rfl
 ·rw[xka hh];rfl
theorem zip_lt(l m:List Nat):∀ x∈List.zipWith ad l m,x<4294967296:=by
 intro x hx;obtain⟨i,hi,rfl⟩:=List.mem_iff_getElem.1 hx;rw[List.getElem_zipWith];exact xbr _ _
theorem step_lt(h:List Nat)(b:LU):∀ x∈step h b,x<4294967296:=by
 by_cases hh:h.length=8
 ·obtain⟨a0,a1,a2,a3,a4,a5,a6,a7,rfl⟩:=eight hh
  rw[xm0];exact zip_lt _ _
 ·rw[xka hh];decide
def xdf:Nat→List Nat→LU→List Nat
 | 0,h,_=>h
 | n+1,h,l=>xdf n (step h (l.take 64)) (l.drop 64)
theorem xqg(a b:Nat)(h:List Nat)(l:LU):xdf (a+b) h l=xdf b (xdf a h l) (l.drop (64*a)):=by
 induction a generalizing h l with
 | zero=>simp[xdf]
 | succ a ih =>
  rw[show a+1+b=(a+b)+1 by omega,xdf,ih,xdf,List.drop_drop];congr 2;omega
theorem xgx(n:Nat)(h:List Nat)(l r:LU)(hn:64*n≤l.length):xdf n h (l++r)=xdf n h l:=by
 induction n generalizing h l with
 | zero=>rfl
 | succ n ih =>
  rw[xdf,xdf,List.take_append_of_le_length (by omega),List.drop_append_of_le_length (by omega),ih _ _ (by simp;omega)]
theorem xld(n:Nat)(h:List Nat)(l:LU)(hh:h.length=8):(xdf n h l).length=8:=by
 induction n generalizing h l with
 | zero=>exact hh
 | succ n ih=>rw[xdf];exact ih _ _ (xop _ _)
theorem xtp(n:Nat)(h:List Nat)(l:LU)(hh:∀ x∈h,x<4294967296):∀ x∈xdf n h l,x<4294967296:=by
 induction n generalizing h l with
 | zero=>exact hh
 | succ n ih=>rw[xdf];exact ih _ _ (step_lt _ _)
def hOf(m:LU):List Nat:=xdf (m.length / 64) shaH m
def xga(m:LU):LU:=m.drop (64*(m.length / 64))
theorem xcu(m:LU):(hOf m).length=8:=xld _ _ _ rfl
theorem hOf_lt(m:LU):∀ x∈hOf m,x<4294967296:=xtp _ _ _ shaH_lt
theorem more_few(m x:LU)(h:m.length%64+x.length<64):hOf (m++x)=hOf m∧xga (m++x)=xga m++x:=by
 have e:(m++x).length / 64=m.length / 64:=by simp;omega
 unfold hOf xga;rw[e,xgx _ _ _ _ (by omega),List.drop_append_of_le_length (by omega)];exact⟨rfl,rfl⟩
theorem xtq(m x:LU)(h:m.length%64+x.length=64):hOf (m++x)=step (hOf m) (xga m++x)∧xga (m++x) = []:=by
 have e:(m++x).length / 64=m.length / 64+1:=by simp;omega
 constructor
 ·unfold hOf xga
  rw[e,xqg,xgx _ _ _ _ (by omega),List.drop_append_of_le_length (by omega)];show step _ (List.take 64 _)=_;rw[List.take_of_length_le (by simp;omega)]
 ·unfold xga
  rw[e,List.drop_eq_nil_of_le (by simp;omega)]
def padz(n:Nat):Nat:=(119 - n%64)%64
def pad(m:LU):LU:=m++(128::(List.replicate (padz m.length) 0++be 8 (8*m.length)))
def shaL(m:LU):LU:=(hOf (pad m)).flatMap (be 4)
theorem xcm(m:LU):(shaL m).length=32:=by
 unfold shaL;obtain⟨a0,a1,a2,a3,a4,a5,a6,a7,e⟩:=eight (xcu (pad m));rw[e];simp[xca]
end Go.Proofs.YtkjjdgnkelchfaaGreat
