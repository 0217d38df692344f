import Derived.Test.YtkjjdgnkelchfaaGreatRows
import Derived.JoinedOf
import Derived.KernelRfl
import Derived.WalkKit
import Derived.OwnWalk
import Derived.Below
import Derived.Laws.CopyOwn
import Derived.Laws.BytesString
import Derived.Laws.OwnMore
import Derived.Lib.Hide
import Derived.Deep.Draws
import Derived.ProofKit
import Derived.OpenShut
import Derived.SizedLaws
import Derived.Test.YtkjjdgnkelchfaaGreatProg
import Derived.OrdersHeld
import Derived.Outline
import Derived.LoopTactic
import Derived.IntWalk
import Derived.Laws.BitsAllLaws
import Derived.Lib.Bytealg
import Derived.Deep.MidRow
import Derived.Laws.Cover3
import Derived.Laws.ResultCell
import Derived.Lib.Strings
import Derived.Lib.Slices
import Derived.Lib.Small
import Derived.Lib.Walk
import Derived.Lib.BitFns
import Derived.Stop.BytesEq
import Derived.Deep.Cut
import Derived.Deep.CutRange
import Derived.Lib.QuoteBits
import Derived.Deep.AppendLies
import Derived.Great.BuildSlice
import Derived.Great.FillDense
import Derived.Deep.Matrix
import Derived.LoopN
import Derived.WideMake
import Derived.StringKeys
import Derived.DeepKeys4
import Derived.WalkSpells
import Derived.Defers
import Derived.Recover
import Derived.Deep.Slices
import Derived.ChangeArms
import Derived.Laws.StructEq
import Derived.WalkMore
import Derived.Lib.SlBytesConst
import Derived.BigFrame
import Derived.ChangeOld
import Derived.ShutString
set_option linter.unusedSimpArgs false
set_option linter.unusedVariables false
set_option maxRecDepth 100000
set_option maxHeartbeats 16000000
set_option linter.defProp false
namespace Go.Proofs.YtkjjdgnkelchfaaGreat
open Go Go.RowKit Go.Proofs.Tryz
theorem qa{α:Type _}{xs:Array α}{i:Nat}{d:α}:xs.getD i d=xs[i]?.getD d:=Array.getD_eq_getD_getElem?
theorem qb{α:Type _}{xs:List α}{i:Nat}:xs.toArray[i]? = xs[i]? := List.getElem?_toArray
theorem qc{α:Type _}{a:α}{i:Nat}{l:List α}:(a::l)[i+1]? = l[i]? := List.getElem?_cons_succ
theorem qd{α:Type _}{a:α}{l:List α}:(a::l)[0]? = some a:=List.getElem?_cons_zero
theorem qe{α:Type _}{a b:α}:(some a).getD b=a:=Option.getD_some
theorem qf{α:Type _}(l:List α)(i:Nat)(a:α):l.toArray.setIfInBounds i a=(l.set i a).toArray:=List.setIfInBounds_toArray l i a
theorem qg{α:Type _}{x:α}{xs:List α}{a:α}:(x::xs).set 0 a=a::xs:=List.set_cons_zero
theorem qh{α:Type _}{x:α}{xs:List α}{i:Nat}{a:α}:(x::xs).set (i+1) a=x::xs.set i a:=List.set_cons_succ
theorem qi{α:Type _}{x:α}{xs:List α}{d:α}:(x::xs).getD 0 d=x:=List.getD_cons_zero
theorem qj{α:Type _}{x:α}{xs:List α}{n:Nat}{d:α}:(x::xs).getD (n+1) d=xs.getD n d:=List.getD_cons_succ
theorem qk{α:Type _}{β:Type _}{f:α→β}{a:α}{l:List α}:List.map f (a::l)=f a::List.map f l:=List.map_cons
theorem ql{α:Type _}{β:Type _}{f:α→β}:List.map f [] = []:=List.map_nil
theorem qm{α:Type _}{a:α}{xs ys:List α}:a::xs++ys=a::(xs++ys):=List.cons_append
theorem qn{α:Type _}(xs:List α) : []++xs=xs:=List.nil_append xs
theorem qo{α:Type _}(xs ys zs:List α):xs++ys++zs=xs++(ys++zs):=List.append_assoc xs ys zs
theorem qp{α:Type _}{xs ys:List α}:(xs++ys).length=xs.length+ys.length:=List.length_append
theorem qr{α:Type _}{a:α}{xs:List α}:(a::xs).length=xs.length+1:=List.length_cons
theorem qs{α:Type _}:([]:List α).length=0:=List.length_nil
theorem qt{α:Type _}{x:α}{l:List α} : [x]++l=x::l:=List.singleton_append
theorem qu{α:Type _}(xs:List α):xs++[]=xs:=List.append_nil xs
abbrev BL:=List (Nat×Nat×List Value)
abbrev LU:=List UInt8
abbrev pG(g:Nat):Value:=.pointer (some ⟨g,0,none⟩)
abbrev iV(x:Int):Value:=.int .i64 x
abbrev aS(g:Nat):Option Addr:=some ⟨g,0,none⟩
abbrev Bw(w v:World):Prop:=Below w.heap.size w v
abbrev oB(w:World)(x:Value):Ending→World→Prop:=fun e v=>e=.returned x∧Below w.heap.size w v
theorem eW(w:World):∃ u,u=w:=⟨w,rfl⟩
theorem hZ{p:Prop}(h:p):RowKit.Hid p:=Lib.hid h
theorem sA{α:Type _}(a b:List α):List.Sublist b (a++b):=List.sublist_append_right a b
theorem sB{α:Type _}(a:α)(l:List α):List.Sublist l (a::l):=List.sublist_cons_self a l
theorem nB{α:Type _}[BEq α][LawfulBEq α]{a b:α}(h:a≠b):(a==b)=false:=beq_eq_false_iff_ne.2 h
structure Bx (p:Prop):Prop where
 a:p
variable {p q:Prop}(x:p)
def X1(Y:Bx p→q:=by
 intro Y;refine wpList_plain hgd ?_;intro K hK;revert K hK
 exact Y.1):q:=Y ⟨x⟩
def X2(Y:Bx p→q:=by
 intro Y;have e:Hid ((Lib.len8 x+9223372036854775808)%18446744073709551616 - 9223372036854775808=(Lib.bitLen x.toNat:Int)):=Lib.len8_int x h0 h1;revert e
 exact Y.1):q:=Y ⟨x⟩
def X3(Y:Bx p→q:=by
 intro Y;have hB:Below w.heap.size w (w.alloc (.cells (bvs p).toArray 24)):=(Below.refl _ _).alloc (Nat.le_refl _) _;have hb:Blk (w.alloc (.cells (bvs p).toArray 24)) w.heap.size 24 (bvs p):=Blk.new _ _ _;revert hB hb
 exact Y.1):q:=Y ⟨x⟩
def X4(Y:Bx p→q:=by
 intro Y;simp only[pick,qk,ql,qi,qj]
 exact Y.1):q:=Y ⟨x⟩
def X5(Y:Bx p→q:=by
 intro Y;refine xab (v:=?_) rfl rfl hS ?_ ?_;rotate_left;(· intro W hW;(try subst hW);go_simp;try with_reducible rfl)
 exact Y.1):q:=Y ⟨x⟩
def X6(Y:Bx p→q:=by
 intro Y;simp only[Act.put,qf,qg,qh]
 with_reducible exact Y.1):q:=Y ⟨x⟩
def X7(Y:Bx p→q:=by
 intro Y;refine X5 ?_;simp only[Act.put,qf,qg,qh]
 exact Y.1):q:=Y ⟨x⟩
def X8(Y:Bx p→q:=by
 intro Y;refine X7 ?_;refine X7 ?_
 exact Y.1):q:=Y ⟨x⟩
def X9(Y:Bx p→q:=by
 intro Y;refine X6 ?_;refine X7 ?_
 exact Y.1):q:=Y ⟨x⟩
def Xa(Y:Bx p→q:=by
 intro Y;refine rg_done (by kernel_rfl) ?_
 exact Y.1):q:=Y ⟨x⟩
def Xb(Y:Bx p→q:=by
 intro Y;refine X6 ?_;refine Xa ?_
 exact Y.1):q:=Y ⟨x⟩
def Xc(Y:Bx p→q:=by
 intro Y;(try simp only[Exit.inBlock,Exit.then])
 exact Y.1):q:=Y ⟨x⟩
def Xd(Y:Bx p→q:=by
 intro Y;refine xab rfl rfl hS (fun W hW=>xib _ _ rfl _ _ (((4*k:Nat):Int)) rfl rfl (by omega) (by omega)) ?_
 exact Y.1):q:=Y ⟨x⟩
def Xe(Y:Bx p→q:=by
 intro Y;refine xab rfl rfl hS (fun W hW=>xcd ia97 _ _ rfl _ _ _ rfl rfl (by omega)) ?_
 exact Y.1):q:=Y ⟨x⟩
def Xf(Y:Bx p→q:=by
 intro Y;refine xab rfl rfl hS (fun W hW=>xcd ia176 _ _ rfl _ _ _ rfl rfl (by omega)) ?_
 exact Y.1):q:=Y ⟨x⟩
def Xg(Y:Bx p→q:=by
 intro Y;refine xc0 rfl rfl ?_;intro K hK;revert K hK
 exact Y.1):q:=Y ⟨x⟩
def Xh(Y:Bx p→q:=by
 intro Y;refine X6 ?_;refine Xg ?_;intro K hK;revert K hK
 exact Y.1):q:=Y ⟨x⟩
def Xi(Y:Bx p→q:=by
 intro Y;refine hK _ _ (fun h=>by cases h) ?_
 exact Y.1):q:=Y ⟨x⟩
def Xj(Y:Bx p→q:=by
 intro Y;refine xab (v:=?_) rfl rfl hS2 ?_ ?_;rotate_left;(· intro W hW;(try subst hW);go_simp;try with_reducible rfl)
 exact Y.1):q:=Y ⟨x⟩
def Xk(Y:Bx p→q:=by
 intro Y;refine X6 ?_;refine Xj ?_
 exact Y.1):q:=Y ⟨x⟩
def Xl(Y:Bx p→q:=by
 intro Y;refine Xk ?_;simp only[Act.put,qf,qg,qh]
 exact Y.1):q:=Y ⟨x⟩
def Xm(Y:Bx p→q:=by
 intro Y;refine xab rfl rfl hS2 (fun W hW=>xcd ia176 _ _ rfl _ _ _ rfl rfl (by omega)) ?_
 exact Y.1):q:=Y ⟨x⟩
def Xn(Y:Bx p→q:=by
 intro Y;refine xab rfl rfl hS2 (fun W hW=>xfe _ _ rfl _ _ rfl rfl) ?_
 exact Y.1):q:=Y ⟨x⟩
def Xo(Y:Bx p→q:=by
 intro Y;refine xab (v:=?_) rfl rfl hS3 ?_ ?_;rotate_left;(· intro W hW;(try subst hW);go_simp;try with_reducible rfl)
 exact Y.1):q:=Y ⟨x⟩
def Xp(Y:Bx p→q:=by
 intro Y;refine X6 ?_;refine xab rfl rfl hS3 (fun W hW=>xcd ia96 _ _ rfl _ 1 _ rfl rfl (by decide)) ?_
 exact Y.1):q:=Y ⟨x⟩
def Xq(Y:Bx p→q:=by
 intro Y;refine X6 ?_;refine xab rfl rfl hS3 (fun W hW=>xcd ia96 _ _ rfl _ 2 _ rfl rfl (by decide)) ?_
 exact Y.1):q:=Y ⟨x⟩
def Xr(Y:Bx p→q:=by
 intro Y;refine xab (v:=?_) rfl rfl hS4 ?_ ?_;rotate_left;(· intro W hW;(try subst hW);go_simp;try with_reducible rfl)
 exact Y.1):q:=Y ⟨x⟩
def Xs(Y:Bx p→q:=by
 intro Y;refine xab rfl rfl hS4 (fun W hW=>xcd ia96 _ _ rfl _ _ _ rfl rfl (by omega)) ?_
 exact Y.1):q:=Y ⟨x⟩
def Xt(Y:Bx p→q:=by
 intro Y;refine wp_region_lit ?_
 exact Y.1):q:=Y ⟨x⟩
def Xu(Y:Bx p→q:=by
 intro Y;(try simp only[Act.put,qf,qg,qh])
 exact Y.1):q:=Y ⟨x⟩
def Xv(Y:Bx p→q:=by
 intro Y;refine hK _ _ ?_;(try simp only[Act.put,qf,qg,qh])
 exact Y.1):q:=Y ⟨x⟩
def Xw(Y:Bx p→q:=by
 intro Y;simp only[Act.put,Act.eval,qa,qb,qc,qd,qe,qf,qg,qh]
 with_reducible exact Y.1):q:=Y ⟨x⟩
def Xx(Y:Bx p→q:=by
 intro Y;refine xaa rfl _ (xi4 _ rfl) ?_;simp only[Act.put,Act.eval,qa,qb,qc,qd,qe,qf,qg,qh]
 exact Y.1):q:=Y ⟨x⟩
def Xy(Y:Bx p→q:=by
 intro Y;refine wpList_nil ?_
 exact Y.1):q:=Y ⟨x⟩
def Xz(Y:Bx p→q:=by
 intro Y;refine Xx ?_;refine Xy ?_
 exact Y.1):q:=Y ⟨x⟩
def X10(Y:Bx p→q:=by
 intro Y;refine Xu ?_;refine Xz ?_
 exact Y.1):q:=Y ⟨x⟩
def X11(Y:Bx p→q:=by
 intro Y;refine xaa rfl _ (xic _ rfl) ?_;simp only[Act.put,Act.eval,qa,qb,qc,qd,qe,qf,qg,qh]
 with_reducible exact Y.1):q:=Y ⟨x⟩
def X12(Y:Bx p→q:=by
 intro Y;refine Xt ?_;refine X11 ?_
 exact Y.1):q:=Y ⟨x⟩
def X13(Y:Bx p→q:=by
 intro Y;refine xaa rfl _ (xdn _ rfl _ rfl) ?_;simp only[Act.put,qf,qg,qh]
 exact Y.1):q:=Y ⟨x⟩
def X14(Y:Bx p→q:=by
 intro Y;refine X12 ?_;refine X13 ?_
 exact Y.1):q:=Y ⟨x⟩
def X15(Y:Bx p→q:=by
 intro Y;refine X6 ?_;refine X11 ?_
 with_reducible exact Y.1):q:=Y ⟨x⟩
def X16(Y:Bx p→q:=by
 intro Y;refine X6 ?_;refine X13 ?_
 exact Y.1):q:=Y ⟨x⟩
def X17(Y:Bx p→q:=by
 intro Y;refine Xu ?_;refine Xy ?_
 exact Y.1):q:=Y ⟨x⟩
def X18(Y:Bx p→q:=by
 intro Y;refine xab rfl rfl hS (fun W hW=>xdn _ rfl _ rfl) ?_
 exact Y.1):q:=Y ⟨x⟩
def X19(Y:Bx p→q:=by
 intro Y;refine X12 ?_;refine X11 ?_
 exact Y.1):q:=Y ⟨x⟩
def X1a(Y:Bx p→q:=by
 intro Y;refine X6 ?_;refine Xz ?_
 exact Y.1):q:=Y ⟨x⟩
def X1b(Y:Bx p→q:=by
 intro Y;refine xab (v:=?_) rfl rfl hS0 ?_ ?_;rotate_left;(· intro W hW;(try subst hW);go_simp;try with_reducible rfl)
 exact Y.1):q:=Y ⟨x⟩
def X1c(Y:Bx p→q:=by
 intro Y;have hbz:Blk (w.alloc (.cells (bvs (zb 32)).toArray 23)) w.heap.size 23 (bvs (zb 32)):=Blk.new _ _ _;revert hbz
 exact Y.1):q:=Y ⟨x⟩
def X1d(Y:Bx p→q:=by
 intro Y;have hw0:Below w.heap.size w (w.alloc (.cells (bvs (zb 32)).toArray 23)):=(Below.refl _ _).alloc (Nat.le_refl _) _;revert hw0
 exact Y.1):q:=Y ⟨x⟩
def X1e(Y:Bx p→q:=by
 intro Y;refine X15 ?_;refine Xy ?_
 exact Y.1):q:=Y ⟨x⟩
def X1f(Y:Bx p→q:=by
 intro Y;refine Xx ?_;refine Xz ?_
 exact Y.1):q:=Y ⟨x⟩
def X1g(Y:Bx p→q:=by
 intro Y;refine X6 ?_;refine X1f ?_
 exact Y.1):q:=Y ⟨x⟩
def X1h(Y:Bx p→q:=by
 intro Y;refine X6 ?_;refine xab rfl rfl hS (fun W hW=>xeq ia25 _ rfl (w.heap.size+1) 0 rfl) ?_
 exact Y.1):q:=Y ⟨x⟩
def X1i(Y:Bx p→q:=by
 intro Y;have hS1:=xid (w0.drew.alloc (.cells #[.slice (some ⟨w.heap.size,0,none⟩) 32 32,.slice (some ⟨w.heap.size+1,0,none⟩) 32 32] 25));revert hS1
 exact Y.1):q:=Y ⟨x⟩
def X1j(Y:Bx p→q:=by
 intro Y;refine Xt ?_;refine Xz ?_
 exact Y.1):q:=Y ⟨x⟩
def X1k(Y:Bx p→q:=by
 intro Y;refine xaa rfl ?_ ?_ ?_;rotate_left;(· go_simp;try with_reducible rfl)
 exact Y.1):q:=Y ⟨x⟩
def X1l(Y:Bx p→q:=by
 intro Y;refine X1k ?_;refine X15 ?_
 with_reducible exact Y.1):q:=Y ⟨x⟩
def X1m(Y:Bx p→q:=by
 intro Y;refine xac rfl _ (xic _ rfl) ?_;simp only[Act.put,Act.eval,qa,qb,qc,qd,qe,qf,qg,qh]
 with_reducible exact Y.1):q:=Y ⟨x⟩
def X1n(Y:Bx p→q:=by
 intro Y;refine X1l ?_;refine X1m ?_
 exact Y.1):q:=Y ⟨x⟩
def X1o(Y:Bx p→q:=by
 intro Y;refine X12 ?_;refine X1n ?_
 exact Y.1):q:=Y ⟨x⟩
def X1p(Y:Bx p→q:=by
 intro Y;refine xac rfl _ (xdn _ rfl _ rfl) ?_;simp only[Act.put,qf,qg,qh]
 exact Y.1):q:=Y ⟨x⟩
def X1q(Y:Bx p→q:=by
 intro Y;refine X6 ?_;refine xac rfl _ (xdr sc3 HL _ rfl _ rfl _ (by with_reducible assumption)) ?_
 exact Y.1):q:=Y ⟨x⟩
def X1r(Y:Bx p→q:=by
 intro Y;refine xac rfl ?_ ?_ ?_;rotate_left;(· go_simp;try with_reducible rfl)
 exact Y.1):q:=Y ⟨x⟩
def X1s(Y:Bx p→q:=by
 intro Y;refine X1r ?_;simp only[Act.put,qf,qg,qh]
 exact Y.1):q:=Y ⟨x⟩
def X1t(Y:Bx p→q:=by
 intro Y;refine X1k ?_;refine X1a ?_
 exact Y.1):q:=Y ⟨x⟩
def X1u(Y:Bx p→q:=by
 intro Y;refine wpList_plain rfl ?_;intro K hK;revert K hK
 exact Y.1):q:=Y ⟨x⟩
def X1v(Y:Bx p→q:=by
 intro Y;refine X12 ?_;refine X1u ?_;intro K hK;revert K hK
 exact Y.1):q:=Y ⟨x⟩
def X1w(Y:Bx p→q:=by
 intro Y;simp only[qk,ql,Act.eval,qa,qb,qc,qd,qe]
 exact Y.1):q:=Y ⟨x⟩
def X1x(Y:Bx p→q:=by
 intro Y;refine X1v ?_;intro K hK;refine xad cf213 rfl _ rfl ?_;simp only[qk,ql,Act.eval,qa,qb,qc,qd,qe];revert K hK
 exact Y.1):q:=Y ⟨x⟩
def X1y(Y:Bx p→q:=by
 intro Y;refine⟨_,rfl,hK _ _ ?_⟩
 exact Y.1):q:=Y ⟨x⟩
def X1z(Y:Bx p→q:=by
 intro Y;refine X6 ?_;refine Xy ?_
 exact Y.1):q:=Y ⟨x⟩
def X20(Y:Bx p→q:=by
 intro Y;refine X1y ?_;refine X1z ?_
 exact Y.1):q:=Y ⟨x⟩
def X21(Y:Bx p→q:=by
 intro Y;refine xaa rfl _ (xaf xng _ rfl _ rfl) ?_
 exact Y.1):q:=Y ⟨x⟩
def X22(Y:Bx p→q:=by
 intro Y;refine xaa rfl _ (xdr sc3 HL _ rfl _ rfl _ (by with_reducible assumption)) ?_
 exact Y.1):q:=Y ⟨x⟩
def X23(Y:Bx p→q:=by
 intro Y;have C:=fun u=>hZ (xfw (w:=u) (D:=D) (g:=g) (σ:=σ) (vs:=vs) (vf:=vf))
 have HL:=Loc.start w;revert C HL
 exact Y.1):q:=Y ⟨x⟩
def X24(Y:Bx p→q:=by
 intro Y;refine X15 ?_;refine X1m ?_
 exact Y.1):q:=Y ⟨x⟩
def X25(Y:Bx p→q:=by
 intro Y;refine X6 ?_;refine xac rfl _ (xdr sc316 HL _ rfl _ rfl _ (by with_reducible assumption)) ?_
 exact Y.1):q:=Y ⟨x⟩
def X26(Y:Bx p→q:=by
 intro Y;refine X6 ?_;refine X1m ?_
 with_reducible exact Y.1):q:=Y ⟨x⟩
def X27(Y:Bx p→q:=by
 intro Y;refine X1k ?_;refine X1z ?_
 exact Y.1):q:=Y ⟨x⟩
def X28(Y:Bx p→q:=by
 intro Y;refine X6 ?_;refine X27 ?_
 exact Y.1):q:=Y ⟨x⟩
def X29(Y:Bx p→q:=by
 intro Y;refine X1r ?_;refine X28 ?_
 exact Y.1):q:=Y ⟨x⟩
def X2a(Y:Bx p→q:=by
 intro Y;refine X6 ?_;refine X29 ?_
 exact Y.1):q:=Y ⟨x⟩
def X2b(Y:Bx p→q:=by
 intro Y;refine no_implicit_lambda% (xlj ?_ ?_);rfl;simp only[Act.put,qf,qg,qh]
 with_reducible exact Y.1):q:=Y ⟨x⟩
def X2c(Y:Bx p→q:=by
 intro Y;refine no_implicit_lambda% (X2b ?_);refine no_implicit_lambda% (X2b ?_)
 with_reducible exact Y.1):q:=Y ⟨x⟩
def X2d(Y:Bx p→q:=by
 intro Y;refine no_implicit_lambda% (X2c ?_);refine no_implicit_lambda% (X2c ?_)
 with_reducible exact Y.1):q:=Y ⟨x⟩
def X2e(Y:Bx p→q:=by
 intro Y;refine no_implicit_lambda% (X2c ?_);refine no_implicit_lambda% (X2b ?_)
 exact Y.1):q:=Y ⟨x⟩
def X2f(Y:Bx p→q:=by
 intro Y;refine no_implicit_lambda% (X2c ?_);refine X27 ?_
 exact Y.1):q:=Y ⟨x⟩
def X2g(Y:Bx p→q:=by
 intro Y;refine xah xf4 rfl rfl HL ?_;intro g4 w HL;refine X1a ?_;revert g4 w HL
 exact Y.1):q:=Y ⟨x⟩
def X2h(Y:Bx p→q:=by
 intro Y;refine xah xf4 rfl rfl HL ?_;intro g6 w HL;revert g6 w HL
 exact Y.1):q:=Y ⟨x⟩
def X2i(Y:Bx p→q:=by
 intro Y;(with_reducible refine(xfw (HH.out.1.below HL.below)).mono ?_)
 exact Y.1):q:=Y ⟨x⟩
def X2j(Y:Bx p→q:=by
 intro Y;refine X19 ?_;refine X1u ?_;intro K hK;revert K hK
 exact Y.1):q:=Y ⟨x⟩
def X2k(Y:Bx p→q:=by
 intro Y;refine xad cf231 rfl _ rfl ?_
 exact Y.1):q:=Y ⟨x⟩
def X2l(Y:Bx p→q:=by
 intro Y;(with_reducible refine(xl5 (HH.out.1.below HL.below) n i HH.out.2.1 hi HH.out.2.2).mono ?_)
 exact Y.1):q:=Y ⟨x⟩
def X2m(Y:Bx p→q:=by
 intro Y;refine X1y ?_;refine X1a ?_
 exact Y.1):q:=Y ⟨x⟩
def X2n(Y:Bx p→q:=by
 intro Y;refine X12 ?_;refine X27 ?_
 exact Y.1):q:=Y ⟨x⟩
def X2o(Y:Bx p→q:=by
 intro Y;refine X6 ?_;refine xbo xeo rfl _ _ rfl HL 1 _ _ _ _ rfl rfl rfl (Nd.len _) (Nd.len _) (Nd.one _) ?_
 exact Y.1):q:=Y ⟨x⟩
def X2p(Y:Bx p→q:=by
 intro Y;intro w HL;simp only[qg,qh] at HL;revert w HL
 exact Y.1):q:=Y ⟨x⟩
def X2q(Y:Bx p→q:=by
 intro Y;refine bodyPost_ret (xay rfl xeo _ _ g4 230 _ rfl (HL.blk (.tail _ (.head _))) (Nd.len _)) rfl ?_
 exact Y.1):q:=Y ⟨x⟩
def X2r(Y:Bx p→q:=by
 intro Y;refine xaa rfl _ (xbn xeo HL _ rfl _ rfl _ _ (.head _) (Nd.len _)) ?_
 exact Y.1):q:=Y ⟨x⟩
def X2s(Y:Bx p→q:=by
 intro Y;refine Xt ?_;refine xcs rfl _ rfl HL _ rfl ?_;intro g5 w HL;revert g5 w HL
 exact Y.1):q:=Y ⟨x⟩
def X2t(Y:Bx p→q:=by
 intro Y;refine X2p ?_;intro w HL;refine X17 ?_;revert w HL
 exact Y.1):q:=Y ⟨x⟩
def X2u(Y:Bx p→q:=by
 intro Y;have HH:=hZ (And.intro h (And.intro hn (show σ.slots[i].count≠0 by omega)));revert HH
 exact Y.1):q:=Y ⟨x⟩
def X2v(Y:Bx p→q:=by
 intro Y;refine xaa rfl _ (xer xsl _ rfl _ _ rfl) ?_;simp only[Act.put,qf,qg,qh]
 exact Y.1):q:=Y ⟨x⟩
def X2w(Y:Bx p→q:=by
 intro Y;refine xaa rfl _ (xai sc3 HL _ rfl _ _ rfl _ _ _ (.head _) HG.out) ?_
 exact Y.1):q:=Y ⟨x⟩
def X2x(Y:Bx p→q:=by
 intro Y;refine xa3 sc3 rfl _ _ rfl HL 0 G _ 340 _ _ _ rfl rfl rfl rfl hfit HSP.out ?_
 exact Y.1):q:=Y ⟨x⟩
def X2y(Y:Bx p→q:=by
 intro Y;refine Xt ?_;refine X1f ?_
 exact Y.1):q:=Y ⟨x⟩
def X2z(Y:Bx p→q:=by
 intro Y;refine X2v ?_;refine xaa rfl _ (xai sc3 HL _ rfl _ _ rfl _ _ _ (.head _) HG2.out) ?_
 exact Y.1):q:=Y ⟨x⟩
def X30(Y:Bx p→q:=by
 intro Y;refine X19 ?_;refine X13 ?_
 exact Y.1):q:=Y ⟨x⟩
def X31(Y:Bx p→q:=by
 intro Y;refine xaa rfl _ (xaf fa318_1 _ rfl _ rfl) ?_
 exact Y.1):q:=Y ⟨x⟩
def X32(Y:Bx p→q:=by
 intro Y;refine X6 ?_;refine xaa rfl _ (xai sc71 HL _ rfl _ _ rfl _ _ _ (.tail _ (.head _)) (rfl)) ?_
 exact Y.1):q:=Y ⟨x⟩
def X33(Y:Bx p→q:=by
 intro Y;refine X2p ?_;intro w HL;(try simp only[Act.eval,qa,qb,qc,qd,qe] at HL);(try simp only[Act.put,qf,qg,qh]);revert w HL
 exact Y.1):q:=Y ⟨x⟩
def X34(Y:Bx p→q:=by
 intro Y;refine X33 ?_;intro w HL;refine Xy ?_;revert w HL
 exact Y.1):q:=Y ⟨x⟩
def X35(Y:Bx p→q:=by
 intro Y;refine X6 ?_;refine xaa rfl _ (xai sc3 HL _ rfl _ _ rfl _ _ _ (.tail _ (.head _)) (rfl)) ?_
 exact Y.1):q:=Y ⟨x⟩
def X36(Y:Bx p→q:=by
 intro Y;refine X6 ?_;refine xa3 sc3 rfl _ _ rfl HL 1 _ _ _ _ _ _ rfl rfl rfl rfl (by simp) (rfl) ?_
 exact Y.1):q:=Y ⟨x⟩
def X37(Y:Bx p→q:=by
 intro Y;have h:=xbl ([]:List Value) [Value.pointer none] ([]:List Value) [x0] (by first | rfl | (simp only[D32.cl,Brv.len,Cla.len,Clm.len,Nd.len,Nod.len,Par.len,Plc.len,Prv.len,Sai.len,Say.len,Slo.len,Spv.len,Str.len,qr,qs]));revert h
 exact Y.1):q:=Y ⟨x⟩
def X38(Y:Bx p→q:=by
 intro Y;refine xcs rfl _ rfl HL _ rfl ?_;intro g3 w HL;revert g3 w HL
 exact Y.1):q:=Y ⟨x⟩
def X39(Y:Bx p→q:=by
 intro Y;refine Xt ?_;refine X38 ?_;intro g3 w HL;revert g3 w HL
 exact Y.1):q:=Y ⟨x⟩
def X3a(Y:Bx p→q:=by
 intro Y;refine X4 ?_;replace HL:=HL.drew;revert HL
 exact Y.1):q:=Y ⟨x⟩
def X3b(Y:Bx p→q:=by
 intro Y;refine xab rfl rfl HL (fun W hW=>xic _ rfl) ?_;simp only[Act.put,Act.eval,qa,qb,qc,qd,qe,qf,qg,qh]
 exact Y.1):q:=Y ⟨x⟩
def X3c(Y:Bx p→q:=by
 intro Y;refine X3a ?_;intro HL;refine X3b ?_;revert HL
 exact Y.1):q:=Y ⟨x⟩
def X3d(Y:Bx p→q:=by
 intro Y;refine xab rfl rfl HL (fun W hW=>xdn _ rfl _ rfl) ?_;simp only[Act.put,qf,qg,qh]
 exact Y.1):q:=Y ⟨x⟩
def X3e(Y:Bx p→q:=by
 intro Y;refine X3c ?_;intro HL;refine X3d ?_;revert HL
 exact Y.1):q:=Y ⟨x⟩
def X3f(Y:Bx p→q:=by
 intro Y;refine xab rfl rfl HL (fun W hW=>xai sc3 hW _ rfl _ _ rfl _ _ _ (.tail _ (.tail _ (.head _))) (rfl)) ?_
 exact Y.1):q:=Y ⟨x⟩
def X3g(Y:Bx p→q:=by
 intro Y;refine X6 ?_;refine X3b ?_
 exact Y.1):q:=Y ⟨x⟩
def X3h(Y:Bx p→q:=by
 intro Y;refine X3g ?_;refine X3d ?_
 exact Y.1):q:=Y ⟨x⟩
def X3i(Y:Bx p→q:=by
 intro Y;refine xab (v:=?_) rfl rfl HL ?_ ?_;rotate_left;(· intro W hW;go_simp;try with_reducible rfl)
 exact Y.1):q:=Y ⟨x⟩
def X3j(Y:Bx p→q:=by
 intro Y;refine X6 ?_;refine X3i ?_
 exact Y.1):q:=Y ⟨x⟩
def X3k(Y:Bx p→q:=by
 intro Y;refine X3j ?_;refine Xb ?_
 exact Y.1):q:=Y ⟨x⟩
def X3l(Y:Bx p→q:=by
 intro Y;refine xaa rfl _ (xa6 _ _ rfl _ _ _ rfl rfl HU.out (by omega)) ?_;refine X16 ?_
 exact Y.1):q:=Y ⟨x⟩
def X3m(Y:Bx p→q:=by
 intro Y;refine xaa rfl _ (xai sc71 HL _ rfl _ _ rfl _ _ _ (.tail _ (.tail _ (.head _))) (rfl)) ?_
 exact Y.1):q:=Y ⟨x⟩
def X3n(Y:Bx p→q:=by
 intro Y;refine xaa rfl _ (xb3 underlying71 _ rfl _ _ _ rfl) ?_
 exact Y.1):q:=Y ⟨x⟩
def X3o(Y:Bx p→q:=by
 intro Y;refine X15 ?_;refine xaa rfl _ (xa2 _ _ rfl _ _ _ rfl rfl HF1.out (by omega)) ?_
 exact Y.1):q:=Y ⟨x⟩
def X3p(Y:Bx p→q:=by
 intro Y;refine xab rfl rfl HL (fun W hW=>xbn xeo hW _ rfl _ rfl _ _ (.head _) (Nd.len _)) ?_
 exact Y.1):q:=Y ⟨x⟩
def X3q(Y:Bx p→q:=by
 intro Y;refine X6 ?_;refine xab rfl rfl HL (fun W hW=>xbp bs340 _ rfl _ (by exact bd340_33 _)) ?_
 exact Y.1):q:=Y ⟨x⟩
def X3r(Y:Bx p→q:=by
 intro Y;refine hK _ _ (fun h=>by cases h) ?_
 exact Y.1):q:=Y ⟨x⟩
def X3s(Y:Bx p→q:=by
 intro Y;refine X12 ?_;refine X1f ?_
 exact Y.1):q:=Y ⟨x⟩
def X3t(Y:Bx p→q:=by
 intro Y;refine xab rfl rfl HL (fun W hW=>xai sc3 hW _ rfl _ _ rfl _ _ _ (.tail _ (.head _)) (rfl)) ?_
 exact Y.1):q:=Y ⟨x⟩
def X3u(Y:Bx p→q:=by
 intro Y;refine X3b ?_;refine X3b ?_
 exact Y.1):q:=Y ⟨x⟩
def X3v(Y:Bx p→q:=by
 intro Y;refine X3a ?_;intro HL;refine X3u ?_;revert HL
 exact Y.1):q:=Y ⟨x⟩
def X3w(Y:Bx p→q:=by
 intro Y;refine hK _ _ (fun _=>HL) ?_
 exact Y.1):q:=Y ⟨x⟩
def X3x(Y:Bx p→q:=by
 intro Y;refine X3w ?_;simp only[Act.put,qf,qg,qh]
 exact Y.1):q:=Y ⟨x⟩
def X3y(Y:Bx p→q:=by
 intro Y;refine X3w ?_;refine Xh ?_;intro K hK;revert K hK
 exact Y.1):q:=Y ⟨x⟩
def X3z(Y:Bx p→q:=by
 intro Y;refine X1v ?_;intro K hK;refine xad cf132 rfl _ rfl ?_;simp only[qk,ql,Act.eval,qa,qb,qc,qd,qe];revert K hK
 exact Y.1):q:=Y ⟨x⟩
def X40(Y:Bx p→q:=by
 intro Y;refine X14 ?_;refine xaa rfl _ (xaf xnf _ rfl _ rfl) ?_;simp only[Act.put,qf,qg,qh]
 exact Y.1):q:=Y ⟨x⟩
def X41(Y:Bx p→q:=by
 intro Y;refine xaa rfl _ (xdr sc252 HL _ rfl _ rfl _ (by with_reducible assumption)) ?_
 exact Y.1):q:=Y ⟨x⟩
def X42(Y:Bx p→q:=by
 intro Y;refine X15 ?_;refine X1u ?_;intro K hK;revert K hK
 exact Y.1):q:=Y ⟨x⟩
def X43(Y:Bx p→q:=by
 intro Y;rintro e w ⟨rfl,hb⟩;replace HL:=HL.next hb;revert w hb HL
 exact Y.1):q:=Y ⟨x⟩
def X44(Y:Bx p→q:=by
 intro Y;refine X43 ?_;intro w hb HL;clear hb;revert w HL
 exact Y.1):q:=Y ⟨x⟩
def X45(Y:Bx p→q:=by
 intro Y;refine X44 ?_;intro w HL;refine X1y ?_;revert w HL
 exact Y.1):q:=Y ⟨x⟩
def X46(Y:Bx p→q:=by
 intro Y;refine xaa rfl _ (xhf _ rfl _ _ rfl rfl) ?_
 exact Y.1):q:=Y ⟨x⟩
def X47(Y:Bx p→q:=by
 intro Y;refine X46 ?_;simp only[Act.put,qf,qg,qh]
 exact Y.1):q:=Y ⟨x⟩
def X48(Y:Bx p→q:=by
 intro Y;refine X47 ?_;refine X47 ?_
 exact Y.1):q:=Y ⟨x⟩
def X49(Y:Bx p→q:=by
 intro Y;refine X15 ?_;refine X48 ?_
 exact Y.1):q:=Y ⟨x⟩
def X4a(Y:Bx p→q:=by
 intro Y;refine X45 ?_;intro w HL;refine X49 ?_;revert w HL
 exact Y.1):q:=Y ⟨x⟩
def X4b(Y:Bx p→q:=by
 intro Y;refine xbo xeo rfl _ _ rfl HL 0 _ _ _ _ rfl rfl rfl (Nd.len _) (Nd.len _) (Nd.one _) ?_
 exact Y.1):q:=Y ⟨x⟩
def X4c(Y:Bx p→q:=by
 intro Y;refine X33 ?_;intro w HL;refine Xz ?_;revert w HL
 exact Y.1):q:=Y ⟨x⟩
def X4d(Y:Bx p→q:=by
 intro Y;refine X6 ?_;refine X4b ?_;refine X4c ?_;intro w HL;revert w HL
 exact Y.1):q:=Y ⟨x⟩
def X4e(Y:Bx p→q:=by
 intro Y;refine X2h ?_;intro g6 w HL;refine X4d ?_;clear HL;intro w HL;revert g6 w HL
 exact Y.1):q:=Y ⟨x⟩
def X4f(Y:Bx p→q:=by
 intro Y;refine X4a ?_;intro w HL;refine X4e ?_;clear HL;intro g6 w HL;revert g6 w HL
 exact Y.1):q:=Y ⟨x⟩
def X4g(Y:Bx p→q:=by
 intro Y;refine xad cf133 rfl _ rfl ?_;simp only[qk,ql,Act.eval,qa,qb,qc,qd,qe]
 exact Y.1):q:=Y ⟨x⟩
def X4h(Y:Bx p→q:=by
 intro Y;refine X2j ?_;intro K hK;refine X4g ?_;revert K hK
 exact Y.1):q:=Y ⟨x⟩
def X4i(Y:Bx p→q:=by
 intro Y;(with_reducible refine(xfy (h.below HL.below) z n val ok hG).mono ?_)
 exact Y.1):q:=Y ⟨x⟩
def X4j(Y:Bx p→q:=by
 intro Y;refine X4a ?_;intro w HL;refine xah xf4 rfl rfl HL ?_;clear HL;intro g5 w HL;refine X4d ?_;clear HL;intro w HL;revert g5 w HL
 exact Y.1):q:=Y ⟨x⟩
def X4k(Y:Bx p→q:=by
 intro Y;refine Xt ?_;refine xaa rfl _ (xaf fa230_1 _ rfl _ rfl) ?_;simp only[Act.put,qf,qg,qh]
 exact Y.1):q:=Y ⟨x⟩
def X4l(Y:Bx p→q:=by
 intro Y;refine X4k ?_;refine xaa rfl _ (xai sc30 HL _ rfl _ _ rfl _ _ _ (.head _) (Nd.g_kind _)) ?_
 exact Y.1):q:=Y ⟨x⟩
def X4m(Y:Bx p→q:=by
 intro Y;refine xaa rfl _ (xaf xsf _ rfl _ rfl) ?_
 exact Y.1):q:=Y ⟨x⟩
def X4n(Y:Bx p→q:=by
 intro Y;refine X6 ?_;refine xaa rfl _ (xai sc3 HL _ rfl _ _ rfl _ _ _ (.head _) (Nd.g_held _)) ?_
 exact Y.1):q:=Y ⟨x⟩
def X4o(Y:Bx p→q:=by
 intro Y;refine xab rfl rfl HL (fun W hW=>xi4 _ rfl) ?_;simp only[Act.put,Act.eval,qa,qb,qc,qd,qe,qf,qg,qh]
 exact Y.1):q:=Y ⟨x⟩
def X4p(Y:Bx p→q:=by
 intro Y;refine X4o ?_;refine Xa ?_
 exact Y.1):q:=Y ⟨x⟩
def X4q(Y:Bx p→q:=by
 intro Y;refine X4o ?_;refine X4p ?_
 exact Y.1):q:=Y ⟨x⟩
def X4r(Y:Bx p→q:=by
 intro Y;refine Xt ?_;refine xaa rfl _ (xaf xne _ rfl _ rfl) ?_;simp only[Act.put,qf,qg,qh]
 exact Y.1):q:=Y ⟨x⟩
def X4s(Y:Bx p→q:=by
 intro Y;refine xaa rfl _ (xav ag24 HL _ rfl _ _ rfl _ _ _ (.head _) (Nd.g_key _) (D32.cl _)) ?_
 exact Y.1):q:=Y ⟨x⟩
def X4t(Y:Bx p→q:=by
 intro Y;(with_reducible refine(xfy (h.below HL.below) z n val true hG).mono ?_)
 exact Y.1):q:=Y ⟨x⟩
def X4u(Y:Bx p→q:=by
 intro Y;(with_reducible refine(xe8 (h.below HL.below)).mono ?_)
 exact Y.1):q:=Y ⟨x⟩
def X4v(Y:Bx p→q:=by
 intro Y;refine xbo ag23 rfl _ _ rfl HL 1 _ _ _ _ rfl rfl rfl (D32.cl _) (D32.cl _) (D32.c1 _) ?_
 exact Y.1):q:=Y ⟨x⟩
def X4w(Y:Bx p→q:=by
 intro Y;refine xad cf43 rfl _ rfl ?_;simp only[qk,ql,Act.eval,qa,qb,qc,qd,qe]
 exact Y.1):q:=Y ⟨x⟩
def X4x(Y:Bx p→q:=by
 intro Y;(with_reducible refine(empty_d _).mono ?_)
 exact Y.1):q:=Y ⟨x⟩
def X4y(Y:Bx p→q:=by
 intro Y;refine X45 ?_;intro w HL;simp only[Act.put,qf,qg,qh];revert w HL
 exact Y.1):q:=Y ⟨x⟩
def X4z(Y:Bx p→q:=by
 intro Y;refine xbo ag23 rfl _ _ rfl HL 0 _ _ _ _ rfl rfl rfl (D32.cl _) (D32.cl _) (D32.c1 _) ?_
 exact Y.1):q:=Y ⟨x⟩
def X50(Y:Bx p→q:=by
 intro Y;refine X6 ?_;refine X1u ?_;intro K hK;revert K hK
 exact Y.1):q:=Y ⟨x⟩
def X51(Y:Bx p→q:=by
 intro Y;refine X6 ?_;refine X1l ?_
 with_reducible exact Y.1):q:=Y ⟨x⟩
def X52(Y:Bx p→q:=by
 intro Y;refine no_implicit_lambda% (X2e ?_);refine X27 ?_
 exact Y.1):q:=Y ⟨x⟩
def X53(Y:Bx p→q:=by
 intro Y;refine X6 ?_;refine xac rfl _ (xai sc3 HL _ rfl _ _ rfl _ _ _ (.head _) (Nd.g_depth _)) ?_
 exact Y.1):q:=Y ⟨x⟩
def X54(Y:Bx p→q:=by
 intro Y;refine X1y ?_;refine X49 ?_
 exact Y.1):q:=Y ⟨x⟩
def X55(Y:Bx p→q:=by
 intro Y;have hB:Bw w0 w:=HL.below;revert hB
 exact Y.1):q:=Y ⟨x⟩
def X56(Y:Bx p→q:=by
 intro Y;have hgs:Old w0 gs∧¬ SbS g vs vf gs:=⟨HH.out.blk.lt,HH.out.sbs⟩;revert hgs
 exact Y.1):q:=Y ⟨x⟩
def X57(Y:Bx p→q:=by
 intro Y;have HX:=HL.less (D':=fun k=>Old w0 k∧¬ SbS g vs vf k) (fun k hk=>hk.1);revert HX
 exact Y.1):q:=Y ⟨x⟩
def X58(Y:Bx p→q:=by
 intro Y;refine xab rfl rfl HL (fun W hW=>xaf xnf _ rfl _ rfl) ?_
 exact Y.1):q:=Y ⟨x⟩
def X59(Y:Bx p→q:=by
 intro Y;refine xab rfl rfl HL (fun W hW=>xa8 sc252 hW _ rfl _ rfl _ hgs hcs) ?_
 exact Y.1):q:=Y ⟨x⟩
def X5a(Y:Bx p→q:=by
 intro Y;refine⟨_,rfl,hK _ _ (fun _=>HL) ?_⟩
 exact Y.1):q:=Y ⟨x⟩
def X5b(Y:Bx p→q:=by
 intro Y;refine X2j ?_;intro K hK;refine xad cf189 rfl _ rfl ?_;simp only[qk,ql,Act.eval,qa,qb,qc,qd,qe];revert K hK
 exact Y.1):q:=Y ⟨x⟩
def X5c(Y:Bx p→q:=by
 intro Y;refine xad cf150 rfl _ rfl ?_;simp only[qk,ql,Act.eval,qa,qb,qc,qd,qe]
 exact Y.1):q:=Y ⟨x⟩
def X5d(Y:Bx p→q:=by
 intro Y;(with_reducible refine((C _).out).mono ?_)
 exact Y.1):q:=Y ⟨x⟩
def X5e(Y:Bx p→q:=by
 intro Y;refine X5c ?_;refine X5d ?_
 exact Y.1):q:=Y ⟨x⟩
def X5f(Y:Bx p→q:=by
 intro Y;refine X12 ?_;refine X1l ?_
 with_reducible exact Y.1):q:=Y ⟨x⟩
def X5g(Y:Bx p→q:=by
 intro Y;refine X12 ?_;refine X1t ?_
 exact Y.1):q:=Y ⟨x⟩
def X5h(Y:Bx p→q:=by
 intro Y;refine xad cf250 rfl _ rfl ?_;simp only[qk,ql,Act.eval,qa,qb,qc,qd,qe]
 exact Y.1):q:=Y ⟨x⟩
def X5i(Y:Bx p→q:=by
 intro Y;refine xkk rfl ?_;intro K hK;revert K hK
 exact Y.1):q:=Y ⟨x⟩
def X5j(Y:Bx p→q:=by
 intro Y;refine X26 ?_;refine X5i ?_;intro K hK;revert K hK
 exact Y.1):q:=Y ⟨x⟩
def X5k(Y:Bx p→q:=by
 intro Y;refine X1y ?_;simp only[Act.put,qf,qg,qh]
 exact Y.1):q:=Y ⟨x⟩
def X5l(Y:Bx p→q:=by
 intro Y;(with_reducible refine(xe8 (HH.out.sw.below HL.below)).mono ?_)
 exact Y.1):q:=Y ⟨x⟩
def X5m(Y:Bx p→q:=by
 intro Y;refine xaa rfl _ (xb3 underlying25 _ rfl _ _ _ rfl) ?_
 exact Y.1):q:=Y ⟨x⟩
def X5n(Y:Bx p→q:=by
 intro Y;refine xad cf42 rfl _ rfl ?_;simp only[qk,ql,Act.eval,qa,qb,qc,qd,qe]
 exact Y.1):q:=Y ⟨x⟩
def X5o(Y:Bx p→q:=by
 intro Y;refine xah zr23 rfl rfl HL ?_;intro g8 w HL;revert g8 w HL
 exact Y.1):q:=Y ⟨x⟩
def X5p(Y:Bx p→q:=by
 intro Y;refine X6 ?_;refine X4z ?_
 exact Y.1):q:=Y ⟨x⟩
def X5q(Y:Bx p→q:=by
 intro Y;have hSO:∀ k,SbS g vs vf k→Old w0 k:=fun k hk=>HH.out.sb.lt k (HH.out.sb.own k hk)
 revert hSO
 exact Y.1):q:=Y ⟨x⟩
def X5r(Y:Bx p→q:=by
 intro Y;refine xab rfl rfl HL (fun W hW=>xbn ag24 hW _ rfl _ rfl _ _ (.tail _ (.head _)) (D32.cl _)) ?_
 exact Y.1):q:=Y ⟨x⟩
def X5s(Y:Bx p→q:=by
 intro Y;refine xab rfl rfl HL (fun W hW=>xbn ag23 hW _ rfl _ rfl _ _ (.head _) (D32.cl _)) ?_
 exact Y.1):q:=Y ⟨x⟩
def X5t(Y:Bx p→q:=by
 intro Y;refine xad cf41 rfl _ rfl ?_
 exact Y.1):q:=Y ⟨x⟩
def X5u(Y:Bx p→q:=by
 intro Y;have hB1:Bw w1 w:=((Below.refl _ _).drew).trans hb;revert hB1
 exact Y.1):q:=Y ⟨x⟩
def X5v(Y:Bx p→q:=by
 intro Y;refine X5a ?_;simp only[Act.put,qf,qg,qh]
 exact Y.1):q:=Y ⟨x⟩
def X5w(Y:Bx p→q:=by
 intro Y;refine xab rfl rfl HL (fun W hW=>xbp bs228 _ rfl _ (by exact bd228_27 _)) ?_
 exact Y.1):q:=Y ⟨x⟩
def X5x(Y:Bx p→q:=by
 intro Y;refine xad cf208 rfl _ rfl ?_;simp only[qk,ql,Act.eval,qa,qb,qc,qd,qe]
 exact Y.1):q:=Y ⟨x⟩
def X5y(Y:Bx p→q:=by
 intro Y;refine xab rfl rfl HL (fun W hW=>xhf _ rfl _ _ rfl rfl) ?_
 exact Y.1):q:=Y ⟨x⟩
def X5z(Y:Bx p→q:=by
 intro Y;refine X5y ?_;simp only[Act.put,qf,qg,qh]
 exact Y.1):q:=Y ⟨x⟩
def X60(Y:Bx p→q:=by
 intro Y;refine X5z ?_;refine X5z ?_
 exact Y.1):q:=Y ⟨x⟩
def X61(Y:Bx p→q:=by
 intro Y;refine X60 ?_;refine X4q ?_
 exact Y.1):q:=Y ⟨x⟩
def X62(Y:Bx p→q:=by
 intro Y;have hb2:Blk w gs 256 [pG g]:=HL.far hgs HH.out.blk;revert hb2
 exact Y.1):q:=Y ⟨x⟩
def X63(Y:Bx p→q:=by
 intro Y;have GL:Hid (Got σ left nl σ.slots[i].val true):=hZ (.inl ⟨rfl,i,eL,hi,hnl,rfl,hcl⟩);have HE:=hZ (And.intro eL hnl);revert GL HE
 exact Y.1):q:=Y ⟨x⟩
def X64(Y:Bx p→q:=by
 intro Y;have GR:Hid (Got σ right nr σ.slots[j].val true):=hZ (.inl ⟨rfl,j,eR,hj,hnr,rfl,hcr⟩);have HR:=hZ (And.intro eR hnr);revert GR HR
 exact Y.1):q:=Y ⟨x⟩
def X65(Y:Bx p→q:=by
 intro Y;refine xaa rfl _ (xpa bs230 rfl) ?_
 exact Y.1):q:=Y ⟨x⟩
def X66(Y:Bx p→q:=by
 intro Y;refine xaa rfl _ (xbp bs353 _ rfl _ (by exact bd353_29 _ _ rfl)) ?_
 exact Y.1):q:=Y ⟨x⟩
def X67(Y:Bx p→q:=by
 intro Y;refine xul sl354 el353 (by decide) rfl _ _ rfl HL _ _ rfl rfl rfl rfl ?_;intro g33 w HL;simp only[Act.eval,qa,qb,qc,qd,qe,qm,qn] at HL;revert g33 w HL
 exact Y.1):q:=Y ⟨x⟩
def X68(Y:Bx p→q:=by
 intro Y;refine xaa rfl _ (xb3 underlying354 _ rfl _ _ _ rfl) ?_
 exact Y.1):q:=Y ⟨x⟩
def X69(Y:Bx p→q:=by
 intro Y;refine wp_loop_rounds 3 ?_
 exact Y.1):q:=Y ⟨x⟩
def X6a(Y:Bx p→q:=by
 intro Y;refine Xt ?_;refine X27 ?_
 exact Y.1):q:=Y ⟨x⟩
def X6b(Y:Bx p→q:=by
 intro Y;refine xaa rfl _ (xap sl354 _ _ rfl _ _ _ 0 _ rfl rfl (by decide)) ?_
 exact Y.1):q:=Y ⟨x⟩
def X6c(Y:Bx p→q:=by
 intro Y;refine xaa rfl _ (xav xl3 HL _ rfl _ _ rfl _ _ [iV left,pG g10] (.head _) rfl rfl) ?_
 exact Y.1):q:=Y ⟨x⟩
def X6d(Y:Bx p→q:=by
 intro Y;refine X6 ?_;refine xah zr353 rfl rfl HL ?_;intro g13 w HL;revert g13 w HL
 exact Y.1):q:=Y ⟨x⟩
def X6e(Y:Bx p→q:=by
 intro Y;refine xbo xl3 rfl _ _ rfl HL 0 _ _ _ _ rfl rfl rfl (rfl) (rfl) ((by simp[Value.oneCell'])) ?_
 exact Y.1):q:=Y ⟨x⟩
def X6f(Y:Bx p→q:=by
 intro Y;refine X6 ?_;refine xaa rfl _ (xai sc3 HL _ rfl _ _ rfl _ _ _ (.head _) (rfl)) ?_
 exact Y.1):q:=Y ⟨x⟩
def X6g(Y:Bx p→q:=by
 intro Y;refine xaa rfl _ (xaf fa353_0 _ rfl _ rfl) ?_;refine X6f ?_
 exact Y.1):q:=Y ⟨x⟩
def X6h(Y:Bx p→q:=by
 intro Y;refine X6g ?_;refine X28 ?_
 exact Y.1):q:=Y ⟨x⟩
def X6i(Y:Bx p→q:=by
 intro Y;(with_reducible refine(xfy (HH.out.sw.below HL.below) _ _ _ true GL.out).mono ?_)
 exact Y.1):q:=Y ⟨x⟩
def X6j(Y:Bx p→q:=by
 intro Y;refine X4a ?_;intro w HL;refine xah xf4 rfl rfl HL ?_;clear HL;intro g14 w HL;refine X4d ?_;clear HL;intro w HL;revert g14 w HL
 exact Y.1):q:=Y ⟨x⟩
def X6k(Y:Bx p→q:=by
 intro Y;refine X5f ?_;refine xac rfl _ (xaf xsf _ rfl _ rfl) ?_
 exact Y.1):q:=Y ⟨x⟩
def X6l(Y:Bx p→q:=by
 intro Y;refine xac rfl _ (xai sc3 HL _ rfl _ _ rfl _ _ _ (.head _) (Nd.g_held _)) ?_;refine X2a ?_
 exact Y.1):q:=Y ⟨x⟩
def X6m(Y:Bx p→q:=by
 intro Y;refine xaa rfl _ (xaf fa353_1 _ rfl _ rfl) ?_
 exact Y.1):q:=Y ⟨x⟩
def X6n(Y:Bx p→q:=by
 intro Y;refine xaa rfl _ (xai sc352 HL _ rfl _ _ rfl _ _ _ (.tail _ (.head _)) (rfl)) ?_
 exact Y.1):q:=Y ⟨x⟩
def X6o(Y:Bx p→q:=by
 intro Y;refine xbo xeo rfl _ _ rfl HL 4 _ _ _ _ rfl rfl rfl (Nd.len _) (Nd.len _) (Nd.one _) ?_
 exact Y.1):q:=Y ⟨x⟩
def X6p(Y:Bx p→q:=by
 intro Y;refine Xt ?_;refine X1l ?_;refine Xy ?_
 exact Y.1):q:=Y ⟨x⟩
def X6q(Y:Bx p→q:=by
 intro Y;refine xaa rfl _ (xap sl354 _ _ rfl _ _ _ 1 _ rfl rfl (by decide)) ?_
 exact Y.1):q:=Y ⟨x⟩
def X6r(Y:Bx p→q:=by
 intro Y;refine X4g ?_;(with_reducible refine(xfy (HH.out.sw.below HL.below) _ _ _ true GR.out).mono ?_)
 exact Y.1):q:=Y ⟨x⟩
def X6s(Y:Bx p→q:=by
 intro Y;refine X19 ?_;refine X11 ?_
 exact Y.1):q:=Y ⟨x⟩
def X6t(Y:Bx p→q:=by
 intro Y;refine xaa rfl _ (xbn xeo HL _ rfl _ rfl _ _ (.tail _ (.tail _ (.tail _ (.tail _ (.tail _ (.head _)))))) (Nd.len _)) ?_
 exact Y.1):q:=Y ⟨x⟩
def X6u(Y:Bx p→q:=by
 intro Y;refine X45 ?_;intro w HL;refine X28 ?_;revert w HL
 exact Y.1):q:=Y ⟨x⟩
def X6v(Y:Bx p→q:=by
 intro Y;refine xbo ag24 rfl _ _ rfl HL 0 _ _ _ _ rfl rfl rfl (D32.cl _) (D32.cl _) (D32.c1 _) ?_
 exact Y.1):q:=Y ⟨x⟩
def X6w(Y:Bx p→q:=by
 intro Y;refine X6 ?_;refine X6v ?_
 exact Y.1):q:=Y ⟨x⟩
def X6x(Y:Bx p→q:=by
 intro Y;refine xaa rfl _ (xbn ag24 HL _ rfl _ rfl _ _ (.head _) (D32.cl _)) ?_
 exact Y.1):q:=Y ⟨x⟩
def X6y(Y:Bx p→q:=by
 intro Y;refine X6x ?_;refine X42 ?_;intro K hK;revert K hK
 exact Y.1):q:=Y ⟨x⟩
def X6z(Y:Bx p→q:=by
 intro Y;refine Xt ?_;refine X6y ?_;intro K hK;revert K hK
 exact Y.1):q:=Y ⟨x⟩
def X70(Y:Bx p→q:=by
 intro Y;refine rB (Loc.P HL) [] [6,9,10,22] [0,1,2,3,4,5,7,8,12,13,14,15,16,17,18,19,20,6,9,10,11,21,22,23,24,25,26,27] 0 ?_
 exact Y.1):q:=Y ⟨x⟩
def X71(Y:Bx p→q:=by
 intro Y;refine X6 ?_;refine X3u ?_
 exact Y.1):q:=Y ⟨x⟩
def X72(Y:Bx p→q:=by
 intro Y;refine X71 ?_;refine X3u ?_
 exact Y.1):q:=Y ⟨x⟩
def X73(Y:Bx p→q:=by
 intro Y;refine xab rfl rfl HL (fun W hW=>xbn ag24 hW _ rfl _ rfl _ _ (.head _) (D32.cl _)) ?_
 exact Y.1):q:=Y ⟨x⟩
def X74(Y:Bx p→q:=by
 intro Y;refine xab rfl rfl HL (fun W hW=>xaf xse _ rfl _ rfl) ?_
 exact Y.1):q:=Y ⟨x⟩
def X75(Y:Bx p→q:=by
 intro Y;refine xab rfl rfl HL (fun W hW=>xai sc3 hW _ rfl _ _ rfl _ _ _ (.tail _ (.tail _ (.tail _ (.tail _ (.tail _ (.tail _ (.head _))))))) (Nd.g_size _)) ?_
 exact Y.1):q:=Y ⟨x⟩
def X76(Y:Bx p→q:=by
 intro Y;refine xab rfl rfl HL (fun W hW=>xa6 _ _ rfl _ _ _ rfl rfl HZ.out (by omega)) ?_
 exact Y.1):q:=Y ⟨x⟩
def X77(Y:Bx p→q:=by
 intro Y;refine xad cf83 rfl _ rfl ?_;simp only[qk,ql,Act.eval,qa,qb,qc,qd,qe]
 exact Y.1):q:=Y ⟨x⟩
def X78(Y:Bx p→q:=by
 intro Y;refine X77 ?_;(with_reducible refine(xfi (HSW.out.below (Below.refl _ _).drew) left nl _ GL.out).mono ?_)
 exact Y.1):q:=Y ⟨x⟩
def X79(Y:Bx p→q:=by
 intro Y;refine X5a ?_;refine Xh ?_;intro K hK;revert K hK
 exact Y.1):q:=Y ⟨x⟩
def X7a(Y:Bx p→q:=by
 intro Y;refine X77 ?_;(with_reducible refine(xfi (HSW.out.below hB1) right nr _ GR.out).mono ?_)
 exact Y.1):q:=Y ⟨x⟩
def X7b(Y:Bx p→q:=by
 intro Y;refine xad cf44 rfl _ rfl ?_;simp only[qk,ql,Act.eval,qa,qb,qc,qd,qe]
 exact Y.1):q:=Y ⟨x⟩
def X7c(Y:Bx p→q:=by
 intro Y;refine xab rfl rfl HL (fun W hW=>xbp bs230 _ rfl _ (by exact bd230_30 _ _ _ _ _ _)) ?_
 exact Y.1):q:=Y ⟨x⟩
def X7d(Y:Bx p→q:=by
 intro Y;refine X5a ?_;refine X3g ?_
 exact Y.1):q:=Y ⟨x⟩
def X7e(Y:Bx p→q:=by
 intro Y;refine X7d ?_;refine X61 ?_
 exact Y.1):q:=Y ⟨x⟩
def X7f(Y:Bx p→q:=by
 intro Y;have hS1:Stp D w0 D' w:=(Stp.of_below hB).trans ((Stp.of_below hB1).trans hst);revert hS1
 exact Y.1):q:=Y ⟨x⟩
def X7g(Y:Bx p→q:=by
 intro Y;have hP1:StP D' w gs g _ vs' vf':=⟨hb2,hst.old _ HH.out.own,hsb⟩;revert hP1
 exact Y.1):q:=Y ⟨x⟩
def X7h(Y:Bx p→q:=by
 intro Y;have hS2:=hS1.trans (Stp.of_fr hf2 fun k hk=>hP1.sb.own k hk);revert hS2
 exact Y.1):q:=Y ⟨x⟩
def X7i(Y:Bx p→q:=by
 intro Y;refine xaa rfl _ (xbn xeo HL _ rfl _ rfl _ _ (.tail _ (.tail _ (.tail _ (.tail _ (.head _))))) (Nd.len _)) ?_
 exact Y.1):q:=Y ⟨x⟩
def X7j(Y:Bx p→q:=by
 intro Y;refine xaa rfl _ (xav ag24 HL _ rfl _ _ rfl _ _ _ (.tail _ (.tail _ (.tail _ (.tail _ (.tail _ (.head _)))))) (Nd.g_key _) (D32.cl _)) ?_
 exact Y.1):q:=Y ⟨x⟩
def X7k(Y:Bx p→q:=by
 intro Y;refine xab rfl rfl HL (fun W hW=>xai sc3 hW _ rfl _ _ rfl _ _ _ (.tail _ (.tail _ (.tail _ (.tail _ (.tail _ (.head _)))))) (Nd.g_size _)) ?_
 exact Y.1):q:=Y ⟨x⟩
def X7l(Y:Bx p→q:=by
 intro Y;refine X54 ?_;refine X1f ?_
 exact Y.1):q:=Y ⟨x⟩
def X7m(Y:Bx p→q:=by
 intro Y;have C:=fun u=>hZ (xih u key d hd)
 revert C
 exact Y.1):q:=Y ⟨x⟩
def X7n(Y:Bx p→q:=by
 intro Y;refine xad cf138 rfl _ rfl ?_;simp only[qk,ql,Act.eval,qa,qb,qc,qd,qe]
 exact Y.1):q:=Y ⟨x⟩
def X7o(Y:Bx p→q:=by
 intro Y;refine X7n ?_;(with_reducible refine(xgd (HH.out.below HL.below) _ _ _ true HGG.out).mono ?_)
 exact Y.1):q:=Y ⟨x⟩
def X7p(Y:Bx p→q:=by
 intro Y;refine X44 ?_;intro w HL;refine X79 ?_;intro K hK;revert w HL K hK
 exact Y.1):q:=Y ⟨x⟩
def X7q(Y:Bx p→q:=by
 intro Y;refine X44 ?_;intro w HL;refine X5v ?_;revert w HL
 exact Y.1):q:=Y ⟨x⟩
def X7r(Y:Bx p→q:=by
 intro Y;refine X19 ?_;refine X1f ?_
 exact Y.1):q:=Y ⟨x⟩
def X7s(Y:Bx p→q:=by
 intro Y;refine Xx ?_;refine X1f ?_
 exact Y.1):q:=Y ⟨x⟩
def X7t(Y:Bx p→q:=by
 intro Y;refine xad cf154 rfl _ rfl ?_
 exact Y.1):q:=Y ⟨x⟩
def X7u(Y:Bx p→q:=by
 intro Y;refine X45 ?_;intro w HL;refine X1a ?_;revert w HL
 exact Y.1):q:=Y ⟨x⟩
def X7v(Y:Bx p→q:=by
 intro Y;refine X12 ?_;refine Xz ?_
 exact Y.1):q:=Y ⟨x⟩
def X7w(Y:Bx p→q:=by
 intro Y;refine xad cf136 rfl _ rfl ?_;simp only[qk,ql,Act.eval,qa,qb,qc,qd,qe]
 exact Y.1):q:=Y ⟨x⟩
def X7x(Y:Bx p→q:=by
 intro Y;refine X2j ?_;intro K hK;refine X7w ?_;revert K hK
 exact Y.1):q:=Y ⟨x⟩
def X7y(Y:Bx p→q:=by
 intro Y;refine Xt ?_;refine X1t ?_
 exact Y.1):q:=Y ⟨x⟩
def X7z(Y:Bx p→q:=by
 intro Y;refine xad cf142 rfl _ rfl ?_;simp only[qk,ql,Act.eval,qa,qb,qc,qd,qe]
 exact Y.1):q:=Y ⟨x⟩
def X80(Y:Bx p→q:=by
 intro Y;refine X1v ?_;intro K hK;refine X7z ?_;revert K hK
 exact Y.1):q:=Y ⟨x⟩
def X81(Y:Bx p→q:=by
 intro Y;refine X6 ?_;refine X1n ?_
 exact Y.1):q:=Y ⟨x⟩
def X82(Y:Bx p→q:=by
 intro Y;refine X6 ?_;refine X1t ?_
 exact Y.1):q:=Y ⟨x⟩
def X83(Y:Bx p→q:=by
 intro Y;refine xaa rfl _ (xa9 (b:=true) _ _ rfl _ _ rfl rfl k1) ?_
 exact Y.1):q:=Y ⟨x⟩
def X84(Y:Bx p→q:=by
 intro Y;refine X24 ?_;refine X1m ?_
 exact Y.1):q:=Y ⟨x⟩
def X85(Y:Bx p→q:=by
 intro Y;refine xcs rfl _ rfl HL _ rfl ?_;intro g6 w HL;revert g6 w HL
 exact Y.1):q:=Y ⟨x⟩
def X86(Y:Bx p→q:=by
 intro Y;have hg6:w0.heap.size≤g6:=Nat.le_of_not_lt (HL.own _ (.tail _ (.head _))).1;revert hg6
 exact Y.1):q:=Y ⟨x⟩
def X87(Y:Bx p→q:=by
 intro Y;have hg8:w0.heap.size≤g8:=Nat.le_of_not_lt (HL.own _ (.head _)).1;have hg8l:g8<w.heap.size:=(HL.blk (.head _)).lt;revert hg8 hg8l
 exact Y.1):q:=Y ⟨x⟩
def X88(Y:Bx p→q:=by
 intro Y;have h68:g8≠g6:=(List.pairwise_cons.1 HL.nd).1 _ (.head _);have hg6l:g6<w.heap.size:=(HL.blk (.tail _ (.head _))).lt;revert h68 hg6l
 exact Y.1):q:=Y ⟨x⟩
def X89(Y:Bx p→q:=by
 intro Y;refine xaa rfl _ (xbn ag24 HL _ rfl _ rfl _ _ (.tail _ (.head _)) (D32.cl _)) ?_
 exact Y.1):q:=Y ⟨x⟩
def X8a(Y:Bx p→q:=by
 intro Y;refine xad cf152 rfl _ rfl ?_;simp only[qk,ql,Act.eval,qa,qb,qc,qd,qe]
 exact Y.1):q:=Y ⟨x⟩
def X8b(Y:Bx p→q:=by
 intro Y;(with_reducible refine(xku (HH.out.below HL.below) root key way fin HW.out hl HR.out).mono ?_)
 exact Y.1):q:=Y ⟨x⟩
def X8c(Y:Bx p→q:=by
 intro Y;have hB1:Bw w0 w:=HL.below.trans (hb.mono HL.below.size);revert hB1
 exact Y.1):q:=Y ⟨x⟩
def X8d(Y:Bx p→q:=by
 intro Y;refine X54 ?_;refine X47 ?_
 exact Y.1):q:=Y ⟨x⟩
def X8e(Y:Bx p→q:=by
 intro Y;refine xaa rfl _ (xaf fa246_0 _ rfl _ rfl) ?_;simp only[Act.put,qf,qg,qh]
 exact Y.1):q:=Y ⟨x⟩
def X8f(Y:Bx p→q:=by
 intro Y;refine xaa rfl _ (xaf xsg _ rfl _ rfl) ?_;simp only[Act.put,qf,qg,qh]
 exact Y.1):q:=Y ⟨x⟩
def X8g(Y:Bx p→q:=by
 intro Y;refine xaa rfl _ (xai sc3 HL _ rfl _ _ rfl _ _ _ (.head _) (Plc.g_fin _)) ?_
 exact Y.1):q:=Y ⟨x⟩
def X8h(Y:Bx p→q:=by
 intro Y;(with_reducible refine(xcy (HH.out.below (hB1.trans (HL.belowR _ hB1.size hL0))) _ n val ok HG.out).mono ?_)
 exact Y.1):q:=Y ⟨x⟩
def X8i(Y:Bx p→q:=by
 intro Y;refine rB (Loc.P HL) [] [5] [0,1,2,3,4,6,5,7,8,9] 0 ?_
 exact Y.1):q:=Y ⟨x⟩
def X8j(Y:Bx p→q:=by
 intro Y;refine rg_skip rfl rfl HL ?_;(try simp only[Act.put,qf,qg,qh])
 exact Y.1):q:=Y ⟨x⟩
def X8k(Y:Bx p→q:=by
 intro Y;refine X8j ?_;refine X8j ?_
 exact Y.1):q:=Y ⟨x⟩
def X8l(Y:Bx p→q:=by
 intro Y;refine X8k ?_;refine X8k ?_
 exact Y.1):q:=Y ⟨x⟩
def X8m(Y:Bx p→q:=by
 intro Y;refine rg_pass rfl rfl HL ?_;(try simp only[Act.put,qf,qg,qh])
 exact Y.1):q:=Y ⟨x⟩
def X8n(Y:Bx p→q:=by
 intro Y;refine X8j ?_;refine X3i ?_
 exact Y.1):q:=Y ⟨x⟩
def X8o(Y:Bx p→q:=by
 intro Y;refine X8m ?_;refine X8n ?_
 exact Y.1):q:=Y ⟨x⟩
def X8p(Y:Bx p→q:=by
 intro Y;have hb8:Blk w g8 246 (Plc.cells ⟨v,fin,false,false⟩):=HL.blk (.head _);have HX:=HL.drop [(g6,24,key.c)] (.cons _ (.refl _));revert hb8 HX
 exact Y.1):q:=Y ⟨x⟩
def X8q(Y:Bx p→q:=by
 intro Y;refine rB (Loc.P HL) [] [5,17,19] [0,1,2,3,4,7,8,11,5,6,9,10,12,13,14,15,16,17,18,19] 0 ?_
 exact Y.1):q:=Y ⟨x⟩
def X8r(Y:Bx p→q:=by
 intro Y;refine xab rfl rfl HL (fun W hW=>xaf xsh _ rfl _ rfl) ?_
 exact Y.1):q:=Y ⟨x⟩
def X8s(Y:Bx p→q:=by
 intro Y;refine xab rfl rfl HL (fun W hW=>xaf xsi _ rfl _ rfl) ?_
 exact Y.1):q:=Y ⟨x⟩
def X8t(Y:Bx p→q:=by
 intro Y;have hB2:Bw w0 w:=hB1.trans (HL.belowR _ hB1.size hL0);revert hB2
 exact Y.1):q:=Y ⟨x⟩
def X8u(Y:Bx p→q:=by
 intro Y;refine xaa rfl _ (xbn ag246 HL _ rfl _ rfl _ _ (.head _) (Plc.len _)) ?_
 exact Y.1):q:=Y ⟨x⟩
def X8v(Y:Bx p→q:=by
 intro Y;refine xbo ag246 rfl _ _ rfl HL 0 _ _ _ _ rfl rfl rfl (Plc.len _) (Plc.len _) (Plc.one _) ?_
 exact Y.1):q:=Y ⟨x⟩
def X8w(Y:Bx p→q:=by
 intro Y;refine bodyPost_ret (xb8 rfl ag246 _ _ g8 246 _ rfl (HL.blk (.head _)) (Plc.len _)) rfl ?_
 exact Y.1):q:=Y ⟨x⟩
def X8x(Y:Bx p→q:=by
 intro Y;refine X3v ?_;intro HL;refine X3b ?_;revert HL
 exact Y.1):q:=Y ⟨x⟩
def X8y(Y:Bx p→q:=by
 intro Y;refine xab rfl rfl HL (fun W hW=>xaf xsg _ rfl _ rfl) ?_
 exact Y.1):q:=Y ⟨x⟩
def X8z(Y:Bx p→q:=by
 intro Y;refine xab rfl rfl HL (fun W hW=>xai sc3 hW _ rfl _ _ rfl _ _ _ (.head _) (Plc.g_fin _)) ?_
 exact Y.1):q:=Y ⟨x⟩
def X90(Y:Bx p→q:=by
 intro Y;refine xad cf148 rfl _ rfl ?_;simp only[qk,ql,Act.eval,qa,qb,qc,qd,qe]
 exact Y.1):q:=Y ⟨x⟩
def X91(Y:Bx p→q:=by
 intro Y;refine Xh ?_;intro K hK;refine X90 ?_;revert K hK
 exact Y.1):q:=Y ⟨x⟩
def X92(Y:Bx p→q:=by
 intro Y;(with_reducible refine(xij (HH.out.below (hB1.trans (HL.belowR _ hB1.size hL0))) _ n val ok HG.out).mono ?_)
 exact Y.1):q:=Y ⟨x⟩
def X93(Y:Bx p→q:=by
 intro Y;refine X3j ?_;simp only[Act.put,qf,qg,qh]
 exact Y.1):q:=Y ⟨x⟩
def X94(Y:Bx p→q:=by
 intro Y;refine xab rfl rfl HL (fun W hW=>xd1 ab23 _ _ rfl n.key key rfl rfl _ HNE.out) ?_;refine X93 ?_
 exact Y.1):q:=Y ⟨x⟩
def X95(Y:Bx p→q:=by
 intro Y;refine X71 ?_;refine X3b ?_
 exact Y.1):q:=Y ⟨x⟩
def X96(Y:Bx p→q:=by
 intro Y;refine xad cf153 rfl _ rfl ?_;simp only[qk,ql,Act.eval,qa,qb,qc,qd,qe]
 exact Y.1):q:=Y ⟨x⟩
def X97(Y:Bx p→q:=by
 intro Y;have HH:=hZ h;have HI:=hZ hI;revert HH HI
 exact Y.1):q:=Y ⟨x⟩
def X98(Y:Bx p→q:=by
 intro Y;refine xcs rfl _ rfl HL _ rfl ?_;intro g7 w HL;refine X1a ?_;revert g7 w HL
 exact Y.1):q:=Y ⟨x⟩
def X99(Y:Bx p→q:=by
 intro Y;refine X6s ?_;refine X11 ?_
 exact Y.1):q:=Y ⟨x⟩
def X9a(Y:Bx p→q:=by
 intro Y;refine X99 ?_;refine X1u ?_;intro K hK;revert K hK
 exact Y.1):q:=Y ⟨x⟩
def X9b(Y:Bx p→q:=by
 intro Y;refine X9a ?_;intro K hK;refine xad cf210 rfl _ rfl ?_;simp only[qk,ql,Act.eval,qa,qb,qc,qd,qe];revert K hK
 exact Y.1):q:=Y ⟨x⟩
def X9c(Y:Bx p→q:=by
 intro Y;(with_reducible refine(HI.out _ (HH.out.below HL.below)).mono ?_)
 exact Y.1):q:=Y ⟨x⟩
def X9d(Y:Bx p→q:=by
 intro Y;(with_reducible refine(xjs (HH.out.below HL.below).sw).mono ?_)
 exact Y.1):q:=Y ⟨x⟩
def X9e(Y:Bx p→q:=by
 intro Y;refine xaa rfl _ (xao (b:=false) _ _ rfl _ _ rfl rfl kroom) ?_
 exact Y.1):q:=Y ⟨x⟩
def X9f(Y:Bx p→q:=by
 intro Y;refine xaa rfl _ (xbq (b:=false) _ _ rfl _ _ rfl rfl klen) ?_
 exact Y.1):q:=Y ⟨x⟩
def X9g(Y:Bx p→q:=by
 intro Y;refine xad cf143 rfl _ rfl ?_;simp only[qk,ql,Act.eval,qa,qb,qc,qd,qe]
 exact Y.1):q:=Y ⟨x⟩
def X9h(Y:Bx p→q:=by
 intro Y;refine xad cf144 rfl _ rfl ?_;simp only[qk,ql,Act.eval,qa,qb,qc,qd,qe]
 exact Y.1):q:=Y ⟨x⟩
def X9i(Y:Bx p→q:=by
 intro Y;(with_reducible refine(fits1 (HH.out.below HL.below).sw ⟨r1,r2⟩ HF.out).mono ?_)
 exact Y.1):q:=Y ⟨x⟩
def X9j(Y:Bx p→q:=by
 intro Y;refine xaa rfl _ (xaf xsh _ rfl _ rfl) ?_
 exact Y.1):q:=Y ⟨x⟩
def X9k(Y:Bx p→q:=by
 intro Y;refine xaa rfl _ (xai sc4 HL _ rfl _ _ rfl _ _ _ (.head _) (Plc.g_same _)) ?_;refine X1z ?_
 exact Y.1):q:=Y ⟨x⟩
def X9l(Y:Bx p→q:=by
 intro Y;have HX:=HL.less (D':=fun k=>Old w0 k∧¬ D k) (fun k hk=>hk.1);revert HX
 exact Y.1):q:=Y ⟨x⟩
def X9m(Y:Bx p→q:=by
 intro Y;refine xad cf146 rfl _ rfl ?_
 exact Y.1):q:=Y ⟨x⟩
def X9n(Y:Bx p→q:=by
 intro Y;refine xaa rfl _ (xaf xsi _ rfl _ rfl) ?_
 exact Y.1):q:=Y ⟨x⟩
def X9o(Y:Bx p→q:=by
 intro Y;refine xaa rfl _ (xai sc4 HL _ rfl _ _ rfl _ _ _ (.head _) (Plc.g_other _)) ?_;refine X1z ?_
 exact Y.1):q:=Y ⟨x⟩
def X9p(Y:Bx p→q:=by
 intro Y;refine xaa rfl _ (xai sc71 HL _ rfl _ _ rfl _ _ _ (.head _) (Plc.g_above _)) ?_
 exact Y.1):q:=Y ⟨x⟩
def X9q(Y:Bx p→q:=by
 intro Y;refine wp_loop_rounds 1 ?_
 exact Y.1):q:=Y ⟨x⟩
def X9r(Y:Bx p→q:=by
 intro Y;refine xad cf129 rfl _ rfl ?_;simp only[qk,ql,Act.eval,qa,qb,qc,qd,qe]
 exact Y.1):q:=Y ⟨x⟩
def X9s(Y:Bx p→q:=by
 intro Y;refine xad cf149 rfl _ rfl ?_;simp only[qk,ql,Act.eval,qa,qb,qc,qd,qe]
 exact Y.1):q:=Y ⟨x⟩
def X9t(Y:Bx p→q:=by
 intro Y;refine xad cf130 rfl _ rfl ?_;simp only[qk,ql,Act.eval,qa,qb,qc,qd,qe]
 exact Y.1):q:=Y ⟨x⟩
def X9u(Y:Bx p→q:=by
 intro Y;refine X2j ?_;intro K hK;refine X9t ?_;revert K hK
 exact Y.1):q:=Y ⟨x⟩
def X9v(Y:Bx p→q:=by
 intro Y;(with_reducible refine(xjs (HH.out.below HL.below)).mono ?_)
 exact Y.1):q:=Y ⟨x⟩
def X9w(Y:Bx p→q:=by
 intro Y;refine xaa rfl _ (xao (b:=false) _ _ rfl _ _ rfl rfl k1) ?_
 exact Y.1):q:=Y ⟨x⟩
def X9x(Y:Bx p→q:=by
 intro Y;refine Xu ?_;refine xaa rfl _ (xbp bs259 _ rfl _ (by exact bd259_35 _ rfl _ rfl)) ?_
 exact Y.1):q:=Y ⟨x⟩
def X9y(Y:Bx p→q:=by
 intro Y;refine xcs rfl _ rfl HL _ rfl ?_;intro g10 w HL;revert g10 w HL
 exact Y.1):q:=Y ⟨x⟩
def X9z(Y:Bx p→q:=by
 intro Y;have hB1:=HL.below.trans (hb.mono HL.below.size);have hnew2:∀ k,D k→w0.heap.size≤k:=fun k hk=>Nat.le_trans HL.below.size (hnew k hk)
 revert hB1 hnew2
 exact Y.1):q:=Y ⟨x⟩
def Xa0(Y:Bx p→q:=by
 intro Y;refine X12 ?_;refine xaa rfl _ (xbp bs163 _ rfl _ (by exact bd163_23 _ rfl)) ?_
 exact Y.1):q:=Y ⟨x⟩
def Xa1(Y:Bx p→q:=by
 intro Y;refine X15 ?_;refine xaa rfl _ (xbp bs166 _ rfl _ (by exact bd166_24 _ _ rfl)) ?_
 exact Y.1):q:=Y ⟨x⟩
def Xa2(Y:Bx p→q:=by
 intro Y;refine xaa rfl _ (xbq (b:=false) _ _ rfl _ _ rfl rfl k2) ?_
 exact Y.1):q:=Y ⟨x⟩
def Xa3(Y:Bx p→q:=by
 intro Y;refine xaa rfl _ (xam underlying71 _ rfl ⟨aS gT,m+1,cap⟩ (m+1) rfl rfl) ?_
 exact Y.1):q:=Y ⟨x⟩
def Xa4(Y:Bx p→q:=by
 intro Y;refine X40 ?_;refine xaa rfl _ (xa8 sc252 HL _ rfl _ rfl _ HGO.out HGC.out) ?_
 exact Y.1):q:=Y ⟨x⟩
def Xa5(Y:Bx p→q:=by
 intro Y;have HL2:=(HL.less (D':=fun _=>False) (fun _ f=>f.elim)).redo hf (fun x hx hs=>(HL.own x hx).1 (HD.out _ (hPw.sb.own _ hs)));revert HL2
 exact Y.1):q:=Y ⟨x⟩
def Xa6(Y:Bx p→q:=by
 intro Y;simp only[List.count_append,List.count_cons,List.count_nil,beq_iff_eq]
 exact Y.1):q:=Y ⟨x⟩
def Xa7(Y:Bx p→q:=by
 intro Y;refine xaa rfl _ (xhs _ _ rfl nr nl 0 .i64 nr rfl rfl (by decide) rfl) ?_
 exact Y.1):q:=Y ⟨x⟩
def Xa8(Y:Bx p→q:=by
 intro Y;refine X12 ?_;refine xaa rfl _ (xa9 (b:=true) _ _ rfl _ _ rfl rfl kR) ?_
 exact Y.1):q:=Y ⟨x⟩
def Xa9(Y:Bx p→q:=by
 intro Y;refine xd9 sl71 el3 rfl _ rfl HL _ rfl rfl ?_;intro g82 w HL;(try simp only[Act.eval,qa,qb,qc,qd,qe] at HL);revert g82 w HL
 exact Y.1):q:=Y ⟨x⟩
def Xaa(Y:Bx p→q:=by
 intro Y;refine hK _ _ ?_;refine X10 ?_
 exact Y.1):q:=Y ⟨x⟩
def Xab(Y:Bx p→q:=by
 intro Y;refine xaa rfl _ (xhs _ _ rfl nr nl 1 .i64 nl rfl rfl (by decide) rfl) ?_
 exact Y.1):q:=Y ⟨x⟩
def Xac(Y:Bx p→q:=by
 intro Y;refine X12 ?_;refine xaa rfl _ (xa9 (b:=true) _ _ rfl _ _ rfl rfl kL) ?_
 exact Y.1):q:=Y ⟨x⟩
def Xad(Y:Bx p→q:=by
 intro Y;have hPw:StP D2 w gs g (σ1.letGo j) vs1 vf2:=HP3.out.fr HL.fr (fun k hk n=>n (HD2.out k hk));revert hPw
 exact Y.1):q:=Y ⟨x⟩
def Xae(Y:Bx p→q:=by
 intro Y;refine X12 ?_;refine xaa rfl _ (xa9 (b:=false) _ _ rfl _ _ rfl rfl kL) ?_
 exact Y.1):q:=Y ⟨x⟩
def Xaf(Y:Bx p→q:=by
 intro Y;refine X12 ?_;refine xaa rfl _ (xa9 (b:=false) _ _ rfl _ _ rfl rfl kR) ?_
 exact Y.1):q:=Y ⟨x⟩
def Xag(Y:Bx p→q:=by
 intro Y;refine X7w ?_;(with_reducible refine(xcy (HH.out.sw.below HL.below) _ n val ok HG.out).mono ?_)
 exact Y.1):q:=Y ⟨x⟩
def Xah(Y:Bx p→q:=by
 intro Y;refine xac rfl _ (xdq (b:=true) _ _ rfl _ _ rfl rfl k6) ?_;refine X82 ?_
 exact Y.1):q:=Y ⟨x⟩
def Xai(Y:Bx p→q:=by
 intro Y;refine X7w ?_;(with_reducible refine(xcy (HH.out.sw.below HL.below) _ _ _ true HK.out).mono ?_)
 exact Y.1):q:=Y ⟨x⟩
def Xaj(Y:Bx p→q:=by
 intro Y;refine xac rfl _ (xdq (b:=false) _ _ rfl _ _ rfl rfl k6) ?_;refine X82 ?_
 exact Y.1):q:=Y ⟨x⟩
def Xak(Y:Bx p→q:=by
 intro Y;refine X15 ?_;refine no_implicit_lambda% (X2d ?_)
 with_reducible exact Y.1):q:=Y ⟨x⟩
def Xal(Y:Bx p→q:=by
 intro Y;refine xaa rfl _ (xao (b:=false) _ _ rfl _ _ rfl rfl k2) ?_
 exact Y.1):q:=Y ⟨x⟩
def Xam(Y:Bx p→q:=by
 intro Y;have HI:Hid ((i:Int)+1=((i+1:Nat):Int)):=hZ (by omega);revert HI
 exact Y.1):q:=Y ⟨x⟩
def Xan(Y:Bx p→q:=by
 intro Y;have HSV:Hid (Value.slice A n c=.slice (some ad) n c):=hZ (by rw[hA]);revert HSV
 exact Y.1):q:=Y ⟨x⟩
def Xao(Y:Bx p→q:=by
 intro Y;refine xaa rfl _ (xb3 underlying220 _ rfl _ _ _ rfl) ?_
 exact Y.1):q:=Y ⟨x⟩
def Xap(Y:Bx p→q:=by
 intro Y;refine xaa rfl _ (xax _ _ rfl _ _ rfl rfl k3) ?_
 exact Y.1):q:=Y ⟨x⟩
def Xaq(Y:Bx p→q:=by
 intro Y;refine X84 ?_;refine xac rfl _ (xaz xcq (.tmp 11) _ rfl ad n c i .i64 HSV.out rfl hlt) ?_
 exact Y.1):q:=Y ⟨x⟩
def Xar(Y:Bx p→q:=by
 intro Y;refine xac rfl _ (xa5 ag24 _ rfl _ ws[i].key.c rfl (HK _ HL.below).out (by omega) (D32.cl _)) ?_
 exact Y.1):q:=Y ⟨x⟩
def Xas(Y:Bx p→q:=by
 intro Y;refine xaa rfl _ (xa6 _ _ rfl _ _ _ rfl rfl HI.out (by omega)) ?_
 exact Y.1):q:=Y ⟨x⟩
def Xat(Y:Bx p→q:=by
 intro Y;refine X12 ?_;refine Xas ?_;refine X1a ?_
 exact Y.1):q:=Y ⟨x⟩
def Xau(Y:Bx p→q:=by
 intro Y;refine xaa rfl _ (xaf xhj _ rfl _ rfl) ?_;simp only[Act.put,qf,qg,qh]
 exact Y.1):q:=Y ⟨x⟩
def Xav(Y:Bx p→q:=by
 intro Y;refine Xau ?_;refine xaa rfl _ (xav ag24 HL _ rfl _ _ rfl _ _ _ (.head _) (Wrt.g_key _) (D32.cl _)) ?_
 exact Y.1):q:=Y ⟨x⟩
def Xaw(Y:Bx p→q:=by
 intro Y;refine X1w ?_;(with_reducible refine((CC _).out).mono ?_)
 exact Y.1):q:=Y ⟨x⟩
def Xax(Y:Bx p→q:=by
 intro Y;refine xad cf14 rfl _ rfl ?_;refine Xaw ?_
 exact Y.1):q:=Y ⟨x⟩
def Xay(Y:Bx p→q:=by
 intro Y;have HL:Loc w0 (fun _=>False) [] w0:=Loc.start' w0 _ (fun k h=>h.elim);revert HL
 exact Y.1):q:=Y ⟨x⟩
def Xaz(Y:Bx p→q:=by
 intro Y;have H01:Hid ((0:Int)+1=((1:Nat):Int)):=hZ rfl;revert H01
 exact Y.1):q:=Y ⟨x⟩
def Xb0(Y:Bx p→q:=by
 intro Y;refine xaa rfl _ (xa6 _ _ rfl _ _ _ rfl rfl H01.out (by omega)) ?_
 exact Y.1):q:=Y ⟨x⟩
def Xb1(Y:Bx p→q:=by
 intro Y;have HI1:Hid ((i:Int)+1=((i+1:Nat):Int)):=hZ (by omega);revert HI1
 exact Y.1):q:=Y ⟨x⟩
def Xb2(Y:Bx p→q:=by
 intro Y;refine X19 ?_;refine xaa rfl _ (xax _ _ rfl _ _ rfl rfl k14) ?_;refine X1z ?_
 exact Y.1):q:=Y ⟨x⟩
def Xb3(Y:Bx p→q:=by
 intro Y;refine rB (Loc.P HL) [] [14] [0,1,2,3,4,5,6,7,8,9,10,11,12,13,14,15,16] 0 ?_
 exact Y.1):q:=Y ⟨x⟩
def Xb4(Y:Bx p→q:=by
 intro Y;refine X3g ?_;refine X8l ?_
 exact Y.1):q:=Y ⟨x⟩
def Xb5(Y:Bx p→q:=by
 intro Y;refine xab rfl rfl HL (fun W hW=>xbq (b:=false) _ _ rfl _ _ rfl rfl k2) ?_;refine Xb4 ?_
 exact Y.1):q:=Y ⟨x⟩
def Xb6(Y:Bx p→q:=by
 intro Y;refine xaa rfl _ (xa6 _ _ rfl _ _ _ rfl rfl HI1.out (by omega)) ?_
 exact Y.1):q:=Y ⟨x⟩
def Xb7(Y:Bx p→q:=by
 intro Y;refine X12 ?_;refine Xb6 ?_
 exact Y.1):q:=Y ⟨x⟩
def Xb8(Y:Bx p→q:=by
 intro Y;refine Xb7 ?_;refine X1a ?_
 exact Y.1):q:=Y ⟨x⟩
def Xb9(Y:Bx p→q:=by
 intro Y;refine xab rfl rfl HL (fun W hW=>xbq (b:=true) _ _ rfl _ _ rfl rfl k2) ?_
 exact Y.1):q:=Y ⟨x⟩
def Xba(Y:Bx p→q:=by
 intro Y;refine xab rfl rfl HL (fun W hW=>xap xcq _ _ rfl g n c (m+1) .i64 rfl rfl hjn) ?_
 exact Y.1):q:=Y ⟨x⟩
def Xbb(Y:Bx p→q:=by
 intro Y;refine xab rfl rfl HL (fun W hW=>xav ag222 hW _ rfl g ((m+1)*34) rfl 222 _ x.cells (.head _) Hx (Wrt.len _)) ?_
 exact Y.1):q:=Y ⟨x⟩
def Xbc(Y:Bx p→q:=by
 intro Y;refine xab rfl rfl HL (fun W hW=>xa2 _ _ rfl _ _ _ rfl rfl HJ1.out (by omega)) ?_
 exact Y.1):q:=Y ⟨x⟩
def Xbd(Y:Bx p→q:=by
 intro Y;refine X71 ?_;refine Xbc ?_
 exact Y.1):q:=Y ⟨x⟩
def Xbe(Y:Bx p→q:=by
 intro Y;refine xab rfl rfl HL (fun W hW=>xap xcq _ _ rfl g n c m .i64 rfl rfl (by omega)) ?_
 exact Y.1):q:=Y ⟨x⟩
def Xbf(Y:Bx p→q:=by
 intro Y;refine xab rfl rfl HL (fun W hW=>xav ag222 hW _ rfl g (m*34) rfl 222 _ y.cells (.head _) Hy (Wrt.len _)) ?_
 exact Y.1):q:=Y ⟨x⟩
def Xbg(Y:Bx p→q:=by
 intro Y;refine X1w ?_;(with_reducible refine(CB _).out.mono ?_)
 exact Y.1):q:=Y ⟨x⟩
def Xbh(Y:Bx p→q:=by
 intro Y;refine xab rfl rfl HL (fun W hW=>xax (b:=true) _ _ rfl _ _ rfl rfl k15) ?_;refine X3k ?_
 exact Y.1):q:=Y ⟨x⟩
def Xbi(Y:Bx p→q:=by
 intro Y;have HL:Loc w0 (fun _=>False) [] w:=⟨⟨hf.os,hf.tape,hf.output,hf.size,fun k hk hn=>absurd not_false hn⟩,fun x h=>by simp at h,List.Pairwise.nil,fun k h=>h.elim⟩;revert HL
 exact Y.1):q:=Y ⟨x⟩
def Xbj(Y:Bx p→q:=by
 intro Y;refine rB (Loc.P HL) [] [9,13,15,16,17] [0,1,2,3,4,5,6,7,8,10,11,12] 6 ?_;refine X3v ?_;intro HL;revert HL
 exact Y.1):q:=Y ⟨x⟩
def Xbk(Y:Bx p→q:=by
 intro Y;refine X6 ?_;refine xcz [9,13] (by kernel_rfl) ?_
 exact Y.1):q:=Y ⟨x⟩
def Xbl(Y:Bx p→q:=by
 intro Y;refine X4 ?_;refine Xg ?_;intro K hK;revert K hK
 exact Y.1):q:=Y ⟨x⟩
def Xbm(Y:Bx p→q:=by
 intro Y;refine xbj (xbi ag222 _ rfl g ((m+1)*34) 222 _ _ rfl hb Hx (Wrt.len _)) ?_;refine X3x ?_
 exact Y.1):q:=Y ⟨x⟩
def Xbn(Y:Bx p→q:=by
 intro Y;refine xbe ag222.i _ _ rfl g ((m+1)*34) 222 _ _ rfl rfl hb (Wrt.len _) hjl (Wrt.one _) ?_
 exact Y.1):q:=Y ⟨x⟩
def Xbo(Y:Bx p→q:=by
 intro Y;have HL2:Loc w0 (fun _=>False) [] _:=⟨⟨hf2.os,hf2.tape,hf2.output,hf2.size,fun k hk hn=>absurd not_false hn⟩,fun x h=>by simp at h,List.Pairwise.nil,fun k h=>h.elim⟩;refine hK _ _ (fun _=>HL2) ?_;simp only[Act.put,qf,qg,qh];revert HL2
 exact Y.1):q:=Y ⟨x⟩
def Xbp(Y:Bx p→q:=by
 intro Y;refine xaa rfl _ (xa2 _ _ rfl _ _ _ rfl rfl HJ1.out (by omega)) ?_
 exact Y.1):q:=Y ⟨x⟩
def Xbq(Y:Bx p→q:=by
 intro Y;refine xab rfl rfl HL (fun W hW=>xax (b:=false) _ _ rfl _ _ rfl rfl k15) ?_;refine X3k ?_
 exact Y.1):q:=Y ⟨x⟩
def Xbr(Y:Bx p→q:=by
 intro Y;refine xaa rfl _ (xa2 _ _ rfl _ _ _ rfl rfl H0.out (by omega)) ?_
 exact Y.1):q:=Y ⟨x⟩
def Xbs(Y:Bx p→q:=by
 intro Y;refine xaa rfl _ (xgf (b:=true) _ _ rfl _ _ rfl rfl k1) ?_
 exact Y.1):q:=Y ⟨x⟩
def Xbt(Y:Bx p→q:=by
 intro Y;refine X1w ?_;(with_reducible refine(C.out).mono ?_)
 exact Y.1):q:=Y ⟨x⟩
def Xbu(Y:Bx p→q:=by
 intro Y;refine bodyPost_ret (results_none rfl _ _ _) rfl ?_
 exact Y.1):q:=Y ⟨x⟩
def Xbv(Y:Bx p→q:=by
 intro Y;refine X12 ?_;refine Xao ?_
 exact Y.1):q:=Y ⟨x⟩
def Xbw(Y:Bx p→q:=by
 intro Y;refine xaa rfl _ (xd8 (k':=.u64) underlying3 underlying181 _ rfl .i64 (n:Int) (n:Int) rfl rfl hcv) ?_
 exact Y.1):q:=Y ⟨x⟩
def Xbx(Y:Bx p→q:=by
 intro Y;refine xad cf135 rfl _ rfl ?_;refine X1w ?_;(with_reducible refine(HB.out).mono ?_)
 exact Y.1):q:=Y ⟨x⟩
def Xby(Y:Bx p→q:=by
 intro Y;refine X1w ?_;(with_reducible refine((C r).out).mono ?_)
 exact Y.1):q:=Y ⟨x⟩
def Xbz(Y:Bx p→q:=by
 intro Y;refine xaa rfl _ (xd8 (k':=.u64) underlying3 underlying181 _ rfl .i64 ((0:Nat):Int) 0 rfl rfl hcv) ?_
 exact Y.1):q:=Y ⟨x⟩
def Xc0(Y:Bx p→q:=by
 intro Y;refine xaa rfl _ (xax _ _ rfl _ _ rfl rfl k4) ?_;refine X1z ?_
 exact Y.1):q:=Y ⟨x⟩
def Xc1(Y:Bx p→q:=by
 intro Y;refine Xt ?_;refine Xc0 ?_
 exact Y.1):q:=Y ⟨x⟩
def Xc2(Y:Bx p→q:=by
 intro Y;refine xaa rfl _ (xa5 ag222 _ rfl _ x.cells rfl (HRD _ _ HL).out (by omega) (Wrt.len _)) ?_
 exact Y.1):q:=Y ⟨x⟩
def Xc3(Y:Bx p→q:=by
 intro Y;refine xbo ag222 rfl _ _ rfl HL 0 _ _ _ _ rfl rfl rfl (Wrt.len _) (Wrt.len _) (Wrt.one _) ?_
 exact Y.1):q:=Y ⟨x⟩
def Xc4(Y:Bx p→q:=by
 intro Y;have HGO:Hid (x.cells[32]? = some (.bool true)):=hZ (by rw[Wrt.g_gone,hg]);revert HGO
 exact Y.1):q:=Y ⟨x⟩
def Xc5(Y:Bx p→q:=by
 intro Y;refine Xt ?_;refine xaa rfl _ (xaf fa222_1 _ rfl _ rfl) ?_;simp only[Act.put,qf,qg,qh]
 exact Y.1):q:=Y ⟨x⟩
def Xc6(Y:Bx p→q:=by
 intro Y;refine xaa rfl _ (xai sc4 HL _ rfl _ _ rfl _ _ (.bool true) (.head _) HGO.out) ?_
 exact Y.1):q:=Y ⟨x⟩
def Xc7(Y:Bx p→q:=by
 intro Y;have HLK:Hid ((∀ p∈xel (out.map fun q=>q.1.key),p.1≠.agg y.key.c.toArray)→Value.int .i64 (j:Int)=.int .i64 0∧true=false):=hZ (fun h=>absurd rfl (h _ (List.mem_of_getElem? (kvs_some hj))));revert HLK
 exact Y.1):q:=Y ⟨x⟩
def Xc8(Y:Bx p→q:=by
 intro Y;refine X12 ?_;refine Xav ?_
 exact Y.1):q:=Y ⟨x⟩
def Xc9(Y:Bx p→q:=by
 intro Y;refine xaa rfl _ (xfj (HMP _ _ HL).out law24 underlying334 (xpo _) (xq6 _) HKL.out (.tmp 20) (.tmp 22) rfl rfl rfl (iV j) true ⟨HLK.out,HLK2.out⟩) ?_
 exact Y.1):q:=Y ⟨x⟩
def Xca(Y:Bx p→q:=by
 intro Y;refine X49 ?_;refine X1f ?_
 exact Y.1):q:=Y ⟨x⟩
def Xcb(Y:Bx p→q:=by
 intro Y;refine xaa rfl _ (xbn ag222 HL _ rfl _ rfl _ _ (.head _) (Wrt.len _)) ?_
 exact Y.1):q:=Y ⟨x⟩
def Xcc(Y:Bx p→q:=by
 intro Y;refine X6 ?_;refine xaa rfl _ (xap xcq _ _ rfl gG out.length cap j .i64 rfl rfl hjo) ?_
 exact Y.1):q:=Y ⟨x⟩
def Xcd(Y:Bx p→q:=by
 intro Y;have hB2:Bw w0 w:=HB.out.trans (HL.belowR _ HB.out.size (fun u hu=>(HGN.out u (by simpa using hu)).1));revert hB2
 exact Y.1):q:=Y ⟨x⟩
def Xce(Y:Bx p→q:=by
 intro Y;refine Xt ?_;refine Xas ?_;refine X1e ?_
 exact Y.1):q:=Y ⟨x⟩
def Xcf(Y:Bx p→q:=by
 intro Y;have HLK:Hid ((∀ p∈xel (out.map fun q=>q.1.key),p.1≠.agg y.key.c.toArray)→Value.int .i64 0=.int .i64 0∧false=false):=hZ (fun _=>⟨rfl,rfl⟩);revert HLK
 exact Y.1):q:=Y ⟨x⟩
def Xcg(Y:Bx p→q:=by
 intro Y;have HLK2:Hid (∀ (j':Nat)(u:Value),(xel (out.map fun q=>q.1.key))[j']? = some (.agg y.key.c.toArray,u)→Value.int .i64 0=u∧false=true):=hZ (fun j' u h=>absurd (List.mem_of_getElem? (xq7 h).1) hin);revert HLK2
 exact Y.1):q:=Y ⟨x⟩
def Xch(Y:Bx p→q:=by
 intro Y;refine xaa rfl _ (xfj (HMP _ _ HL).out law24 underlying334 (xpo _) (xq6 _) HKL.out (.tmp 20) (.tmp 22) rfl rfl rfl (iV 0) false ⟨HLK.out,HLK2.out⟩) ?_
 exact Y.1):q:=Y ⟨x⟩
def Xci(Y:Bx p→q:=by
 intro Y;refine X15 ?_;refine xaa rfl _ (xam underlying220 _ rfl sv out.length rfl HSL.out) ?_
 exact Y.1):q:=Y ⟨x⟩
def Xcj(Y:Bx p→q:=by
 intro Y;refine xl9 (key:=.agg y.key.c.toArray) (val:=iV (out.length:Int)) (HMP _ _ HL).out law24 underlying334 (xq6 _) HKL.out (.tmp 31) (.tmp 33) (.tmp 35) rfl rfl rfl rfl (kvs_no HNO.out) ?_
 exact Y.1):q:=Y ⟨x⟩
def Xck(Y:Bx p→q:=by
 intro Y;refine X17 ?_;have HDM:Hid (Rest w ((g6,222,y.cells)::(G++[])) gm):=hZ ⟨HMN.out.lt,fun u hu e=>HNE.out u hu e⟩;revert HDM
 exact Y.1):q:=Y ⟨x⟩
def Xcl(Y:Bx p→q:=by
 intro Y;have hMW:=HMN.out.loc HL HDM.out;have hGo:∀ u∈G',¬ Rest w3 ((g6,222,y.cells)::(G++[])) u.1:=fun u hu=>(hLd.own u (by simp[hu])).1
 revert hMW hGo
 exact Y.1):q:=Y ⟨x⟩
def Xcm(Y:Bx p→q:=by
 intro Y;have HGO:Hid (x.cells[32]? = some (.bool false)):=hZ (by rw[Wrt.g_gone,hg]);revert HGO
 exact Y.1):q:=Y ⟨x⟩
def Xcn(Y:Bx p→q:=by
 intro Y;refine xaa rfl _ (xai sc4 HL _ rfl _ _ rfl _ _ (.bool false) (.head _) HGO.out) ?_
 exact Y.1):q:=Y ⟨x⟩
def Xco(Y:Bx p→q:=by
 intro Y;refine X1w ?_;(with_reducible refine(CS.out).mono ?_)
 exact Y.1):q:=Y ⟨x⟩
def Xcp(Y:Bx p→q:=by
 intro Y;refine xaa rfl _ (xa5 ag61 _ rfl _ x.cells rfl (HRD _ _ HL).out (by omega) (Par.len _)) ?_
 exact Y.1):q:=Y ⟨x⟩
def Xcq(Y:Bx p→q:=by
 intro Y;refine xbo ag61 rfl _ _ rfl HL 0 _ _ _ _ rfl rfl rfl (Par.len _) (Par.len _) (Par.one _) ?_
 exact Y.1):q:=Y ⟨x⟩
def Xcr(Y:Bx p→q:=by
 intro Y;refine xaa rfl _ (xaf fa61_0 _ rfl _ rfl) ?_
 exact Y.1):q:=Y ⟨x⟩
def Xcs(Y:Bx p→q:=by
 intro Y;refine xaa rfl _ (xav ag24 HL _ rfl _ _ rfl _ _ _ (.head _) (Par.g_key _) (D32.cl _)) ?_
 exact Y.1):q:=Y ⟨x⟩
def Xct(Y:Bx p→q:=by
 intro Y;refine xaa rfl _ (xaf fa61_1 _ rfl _ rfl) ?_
 exact Y.1):q:=Y ⟨x⟩
def Xcu(Y:Bx p→q:=by
 intro Y;refine xaa rfl _ (xai sc25 HL _ rfl _ _ rfl _ _ _ (.head _) (Par.g_val _)) ?_
 exact Y.1):q:=Y ⟨x⟩
def Xcv(Y:Bx p→q:=by
 intro Y;refine xaa rfl _ (xbp bs222 _ rfl _ (by exact bd222_02 x.key x.val)) ?_
 exact Y.1):q:=Y ⟨x⟩
def Xcw(Y:Bx p→q:=by
 intro Y;refine Xaa ?_;have HLd:=HL.drop (G'++[]) (sA [_,_] _);revert HLd
 exact Y.1):q:=Y ⟨x⟩
def Xcx(Y:Bx p→q:=by
 intro Y;refine X3x ?_;refine X4p ?_
 exact Y.1):q:=Y ⟨x⟩
def Xcy(Y:Bx p→q:=by
 intro Y;refine Xbv ?_;refine X1z ?_
 exact Y.1):q:=Y ⟨x⟩
def Xcz(Y:Bx p→q:=by
 intro Y;refine X97 ?_;intro HH HI;have HT:=hZ ht;revert HH HI HT
 exact Y.1):q:=Y ⟨x⟩
def Xd0(Y:Bx p→q:=by
 intro Y;have HD1:Hid ((d:Int)+1=((d+1:Nat):Int)):=hZ (by omega);revert HD1
 exact Y.1):q:=Y ⟨x⟩
def Xd1(Y:Bx p→q:=by
 intro Y;refine Xt ?_;refine xaa rfl _ (xao (b:=false) _ _ rfl _ _ rfl rfl k0) ?_;refine X1a ?_
 exact Y.1):q:=Y ⟨x⟩
def Xd2(Y:Bx p→q:=by
 intro Y;refine X9w ?_;refine X1a ?_
 exact Y.1):q:=Y ⟨x⟩
def Xd3(Y:Bx p→q:=by
 intro Y;refine Xt ?_;refine Xd2 ?_
 exact Y.1):q:=Y ⟨x⟩
def Xd4(Y:Bx p→q:=by
 intro Y;refine xaa rfl _ (xa6 _ _ rfl _ _ _ rfl rfl HD1.out (by omega)) ?_
 exact Y.1):q:=Y ⟨x⟩
def Xd5(Y:Bx p→q:=by
 intro Y;refine X15 ?_;refine X11 ?_
 with_reducible exact Y.1):q:=Y ⟨x⟩
def Xd6(Y:Bx p→q:=by
 intro Y;refine Xd5 ?_;refine xaa rfl _ (xbw xcq _ _ rfl A n c m .i64 rfl rfl (by omega)) ?_
 exact Y.1):q:=Y ⟨x⟩
def Xd7(Y:Bx p→q:=by
 intro Y;refine xad cf226 rfl _ rfl ?_;simp only[qk,ql,Act.eval,qa,qb,qc,qd,qe]
 exact Y.1):q:=Y ⟨x⟩
def Xd8(Y:Bx p→q:=by
 intro Y;refine Xd5 ?_;refine xaa rfl _ (xbt xcq _ _ rfl A n c m .i64 rfl rfl hmn) ?_
 exact Y.1):q:=Y ⟨x⟩
def Xd9(Y:Bx p→q:=by
 intro Y;have HSV:Hid (Value.slice A 1 c=.slice (some ad) 1 c):=hZ (by rw[hA]);revert HSV
 exact Y.1):q:=Y ⟨x⟩
def Xda(Y:Bx p→q:=by
 intro Y;have hD0:∀ ad,A=some ad→Old w ad.block∧¬ D ad.block:=fun ad e=>⟨hW.s.rd.lt (by simp[Wrt.cells]) e,hW.d (by simp) ad e⟩
 revert hD0
 exact Y.1):q:=Y ⟨x⟩
def Xdb(Y:Bx p→q:=by
 intro Y;have htx:Tx w x.val.A x.val.n x.val.c l:=hW.tx 0 (by simp);revert htx
 exact Y.1):q:=Y ⟨x⟩
def Xdc(Y:Bx p→q:=by
 intro Y;have HX:∀ (L:BL)(u:World),Loc w (Old w) L u→Hid (Rd u x.val.A (bvs l)):=fun L u hu=>hZ (htx.rd.below hu.below)
 revert HX
 exact Y.1):q:=Y ⟨x⟩
def Xdd(Y:Bx p→q:=by
 intro Y;refine X97 ?_;intro HH HI;have HRM:Hid (σ.used<σ.room):=hZ (by omega);revert HH HI HRM
 exact Y.1):q:=Y ⟨x⟩
def Xde(Y:Bx p→q:=by
 intro Y;have CL:∀ (L:BL)(u:World),Loc w (Old w) L u→Hid (Calls prog 146 #[pG gs,.agg x.key.c.toArray,x.val.v] u (Took D u gs g σ fun y=>⟨xb9 x.key l y,1,l⟩)):=fun L u hu=>hZ (xjv (HH.out.below hu.below) x.key x.val.A x.val.n x.val.c l (HX L u hu).out HTX.out.1 HTX.out.2.1 HTX.out.2.2.1 HTX.out.2.2.2 HRM.out)
 revert CL
 exact Y.1):q:=Y ⟨x⟩
def Xdf(Y:Bx p→q:=by
 intro Y;refine rB (Loc.P HL) [] [2,7,17] [0,1,2,3,4,5,6,8,9,10,11,7,12,13,14,15,16,19,20,21,22,23,17,18,24,25] 0 ?_
 exact Y.1):q:=Y ⟨x⟩
def Xdg(Y:Bx p→q:=by
 intro Y;(with_reducible refine(xcy (HH.out.sw.below HL.below) _ Nd.z [] false G0.out).mono ?_)
 exact Y.1):q:=Y ⟨x⟩
def Xdh(Y:Bx p→q:=by
 intro Y;have CL7:Hid (Calls prog 146 #[pG gs,.agg x.key.c.toArray,x.val.v] w.drew (Took D w.drew gs g σ fun y=>⟨xb9 x.key l y,1,l⟩)):=CL _ _ HL.drew;have hS7:Stp D w0 D w.drew:=Stp.of_below HL.drew.below;revert CL7 hS7
 exact Y.1):q:=Y ⟨x⟩
def Xdi(Y:Bx p→q:=by
 intro Y;refine rB (Loc.P HL) [] [9] [0,1,2,3,4,5,6,7,8,9,10,11,12,13,14] 0 ?_
 exact Y.1):q:=Y ⟨x⟩
def Xdj(Y:Bx p→q:=by
 intro Y;refine xab rfl rfl HL (fun W hW=>xaz xcq (.tmp 50) _ rfl ad 1 c 0 .i64 HSV.out rfl (by decide)) ?_
 exact Y.1):q:=Y ⟨x⟩
def Xdk(Y:Bx p→q:=by
 intro Y;refine xab rfl rfl HL (fun W hW=>xe0 xhj _ rfl _ rfl) ?_
 exact Y.1):q:=Y ⟨x⟩
def Xdl(Y:Bx p→q:=by
 intro Y;refine xab rfl rfl HL (fun W hW=>xa5 ag24 _ rfl _ x.key.c rfl (HK2 _ _ hW).out (by omega) (D32.cl _)) ?_
 exact Y.1):q:=Y ⟨x⟩
def Xdm(Y:Bx p→q:=by
 intro Y;refine xab rfl rfl HL (fun W hW=>xaz xcq (.tmp 54) _ rfl ad 1 c 0 .i64 HSV.out rfl (by decide)) ?_
 exact Y.1):q:=Y ⟨x⟩
def Xdn(Y:Bx p→q:=by
 intro Y;refine xab rfl rfl HL (fun W hW=>xe0 xhk _ rfl _ rfl) ?_
 exact Y.1):q:=Y ⟨x⟩
def Xdo(Y:Bx p→q:=by
 intro Y;refine xab rfl rfl HL (fun W hW=>xdi sc25 _ rfl _ x.val.v rfl (HV2 _ _ hW).out) ?_
 exact Y.1):q:=Y ⟨x⟩
def Xdp(Y:Bx p→q:=by
 intro Y;refine X1w ?_;(with_reducible refine(CL7.out).mono ?_)
 exact Y.1):q:=Y ⟨x⟩
def Xdq(Y:Bx p→q:=by
 intro Y;have G0:Hid (Got σ zo nd v true):=hZ (.inl ⟨rfl,i,hzi,hi,hnd,hvi,hci⟩);revert G0
 exact Y.1):q:=Y ⟨x⟩
def Xdr(Y:Bx p→q:=by
 intro Y;(with_reducible refine(xcy (HH.out.sw.below HL.below) _ nd v true G0.out).mono ?_)
 exact Y.1):q:=Y ⟨x⟩
def Xds(Y:Bx p→q:=by
 intro Y;refine xab rfl rfl HL (fun W hW=>xao (b:=true) _ _ rfl _ _ rfl rfl k3) ?_
 exact Y.1):q:=Y ⟨x⟩
def Xdt(Y:Bx p→q:=by
 intro Y;refine xab rfl rfl HL (fun W hW=>xaz xcq (.tmp 27) _ rfl ad 1 c 0 .i64 HSV.out rfl (by decide)) ?_
 exact Y.1):q:=Y ⟨x⟩
def Xdu(Y:Bx p→q:=by
 intro Y;refine xab rfl rfl HL (fun W hW=>xa5 ag24 _ rfl _ x.key.c rfl (HK _ _ hW).out (by omega) (D32.cl _)) ?_
 exact Y.1):q:=Y ⟨x⟩
def Xdv(Y:Bx p→q:=by
 intro Y;(with_reducible refine(xij (HH.out.sw.below HL.below) _ nd v true G0.out).mono ?_)
 exact Y.1):q:=Y ⟨x⟩
def Xdw(Y:Bx p→q:=by
 intro Y;refine rB (Loc.P HL) [] [2,7,17,18] [0,1,2,3,4,5,6,8,9,10,11,7,12,13,14,15,16,19,20,21,22,23,17,18,24,25] 0 ?_
 exact Y.1):q:=Y ⟨x⟩
def Xdx(Y:Bx p→q:=by
 intro Y;refine xab rfl rfl HL (fun W hW=>xd1 ab23 _ _ rfl nd.key x.key rfl rfl true k12) ?_;refine X3j ?_
 exact Y.1):q:=Y ⟨x⟩
def Xdy(Y:Bx p→q:=by
 intro Y;refine xab rfl rfl HL (fun W hW=>xaz xcq (.tmp 38) _ rfl ad 1 c 0 .i64 HSV.out rfl (by decide)) ?_
 exact Y.1):q:=Y ⟨x⟩
def Xdz(Y:Bx p→q:=by
 intro Y;refine X6 ?_;refine xab rfl rfl HL (fun W hW=>xdi sc25 _ rfl _ x.val.v rfl (HV _ _ hW).out) ?_
 exact Y.1):q:=Y ⟨x⟩
def Xe0(Y:Bx p→q:=by
 intro Y;refine xab rfl rfl HL (fun W hW=>xbz bt _ rfl x.val.A x.val.n x.val.c rfl l (HX _ _ hW).out HTX.out.1) ?_
 exact Y.1):q:=Y ⟨x⟩
def Xe1(Y:Bx p→q:=by
 intro Y;(with_reducible refine(xks (HH.out.sw.below HL.below) _ nd v true G0.out HVN.out).mono ?_)
 exact Y.1):q:=Y ⟨x⟩
def Xe2(Y:Bx p→q:=by
 intro Y;refine xab rfl rfl HL (fun W hW=>xmh underlying9 _ _ rfl v l rfl rfl k24) ?_;refine X3k ?_
 exact Y.1):q:=Y ⟨x⟩
def Xe3(Y:Bx p→q:=by
 intro Y;refine xad cf224 rfl _ rfl ?_
 exact Y.1):q:=Y ⟨x⟩
def Xe4(Y:Bx p→q:=by
 intro Y;refine xaa rfl _ (xao (b:=true) _ _ rfl _ _ rfl rfl kn) ?_
 exact Y.1):q:=Y ⟨x⟩
def Xe5(Y:Bx p→q:=by
 intro Y;refine xaa rfl _ (xao (b:=false) _ _ rfl _ _ rfl rfl kn) ?_
 exact Y.1):q:=Y ⟨x⟩
def Xe6(Y:Bx p→q:=by
 intro Y;refine xaa rfl _ (xdq (b:=true) _ _ rfl _ _ rfl rfl k3) ?_;refine X1z ?_
 exact Y.1):q:=Y ⟨x⟩
def Xe7(Y:Bx p→q:=by
 intro Y;have HB2:=hZ ((HB.out.trans (HL.below.mono HB.out.size)).trans (hO.bel.mono (Nat.le_trans HB.out.size HL.fr.size)));have HFA:Hid (∀ q∈qs,∀ ad,q.1.val.A=some ad→w0.heap.size≤ad.block):=hZ (fun q hq ad e=>Nat.le_trans (Nat.le_trans HB.out.size HL.fr.size) (hO.fT q hq ad e));revert HB2 HFA
 exact Y.1):q:=Y ⟨x⟩
def Xe8(Y:Bx p→q:=by
 intro Y;have HSQ:Hid (∀ k t,(k,t)∈qs.map entP↔((k,some t)∈es.map pw∨(k∉xbc es∧(k,t)∈told.ents))):=hZ (fun k t=>(hO.spec k t).trans (xut hti y HRI.out k t));revert HSQ
 exact Y.1):q:=Y ⟨x⟩
def Xe9(Y:Bx p→q:=by
 intro Y;refine xaa rfl _ (xam underlying55 _ rfl v8 qs.length rfl HQL.out.2) ?_;refine X1e ?_
 exact Y.1):q:=Y ⟨x⟩
def Xea(Y:Bx p→q:=by
 intro Y;have HRD:∀ (L:BL)(W:World),Loc w2 (Old w2) L W→Hid (Rd W (some (ad.add (i*33))) qs[i].1.cells):=fun L W hW=>hZ (hrd0.below hW.below)
 revert HRD
 exact Y.1):q:=Y ⟨x⟩
def Xeb(Y:Bx p→q:=by
 intro Y;refine Xt ?_;refine xaa rfl _ (xaz sl55 (.tmp 46) _ rfl ad v8.n v8.c i .i64 HSV.out rfl hin) ?_
 exact Y.1):q:=Y ⟨x⟩
def Xec(Y:Bx p→q:=by
 intro Y;have hshare:∀ p∈qs.map entP,∀ q∈qs.map entP,∀ e,e<d→tb p.1.l e=tb q.1.l e:=fun p hp q hq e he=>HAL.out _ (hkin p hp) _ (hkin q hq) e he
 revert hshare
 exact Y.1):q:=Y ⟨x⟩
def Xed(Y:Bx p→q:=by
 intro Y;refine X6s ?_;refine X1u ?_;intro K hK;revert K hK
 exact Y.1):q:=Y ⟨x⟩
def Xee(Y:Bx p→q:=by
 intro Y;refine Xd5 ?_;refine X1u ?_;intro K hK;revert K hK
 exact Y.1):q:=Y ⟨x⟩
def Xef(Y:Bx p→q:=by
 intro Y;refine xaa rfl _ (xam underlying71 _ rfl ⟨aS gq,2,2⟩ 2 rfl rfl) ?_
 exact Y.1):q:=Y ⟨x⟩
def Xeg(Y:Bx p→q:=by
 intro Y;have HP3:=hZ (HP2.out.below HL.below);have HS3:=hZ (HS2.out.trans (Stp.of_below HL.below));revert HP3 HS3
 exact Y.1):q:=Y ⟨x⟩
def Xeh(Y:Bx p→q:=by
 intro Y;have HGQ:Hid (¬ D2 gq):=hZ (fun hk=>(HL.own _ (.head _)).1 (HP2.out.sb.lt _ hk));revert HGQ
 exact Y.1):q:=Y ⟨x⟩
def Xei(Y:Bx p→q:=by
 intro Y;have HL:=Loc.of1 (Fr.refl (· = gq) w) HQ.out;revert HL
 exact Y.1):q:=Y ⟨x⟩
def Xej(Y:Bx p→q:=by
 intro Y;refine Xt ?_;refine xaa rfl _ (xax (b:=true) _ _ rfl _ _ rfl rfl rfl) ?_;refine X1z ?_
 exact Y.1):q:=Y ⟨x⟩
def Xek(Y:Bx p→q:=by
 intro Y;refine xaa rfl _ (xap sl71 _ _ rfl gq 2 2 0 .i64 rfl rfl (by decide)) ?_
 exact Y.1):q:=Y ⟨x⟩
def Xel(Y:Bx p→q:=by
 intro Y;refine xaa rfl _ (xai sc3 HL _ rfl gq (0*1) rfl 3 _ (iV z1) (.head _) rfl) ?_
 exact Y.1):q:=Y ⟨x⟩
def Xem(Y:Bx p→q:=by
 intro Y;refine X12 ?_;refine xaa rfl _ (xa9 (b:=false) _ _ rfl _ _ rfl rfl kz1) ?_
 exact Y.1):q:=Y ⟨x⟩
def Xen(Y:Bx p→q:=by
 intro Y;refine xaa rfl _ (xap sl71 _ _ rfl gq 2 2 1 .i64 rfl rfl (by decide)) ?_
 exact Y.1):q:=Y ⟨x⟩
def Xeo(Y:Bx p→q:=by
 intro Y;refine xaa rfl _ (xai sc3 HL _ rfl gq (1*1) rfl 3 _ (iV z2) (.head _) rfl) ?_
 exact Y.1):q:=Y ⟨x⟩
def Xep(Y:Bx p→q:=by
 intro Y;refine X12 ?_;refine xaa rfl _ (xa9 (b:=false) _ _ rfl _ _ rfl rfl kz2) ?_
 exact Y.1):q:=Y ⟨x⟩
def Xeq(Y:Bx p→q:=by
 intro Y;refine xaa rfl _ (xax (b:=false) _ _ rfl _ _ rfl rfl rfl) ?_;refine X1z ?_
 exact Y.1):q:=Y ⟨x⟩
def Xer(Y:Bx p→q:=by
 intro Y;refine X12 ?_;refine xaa rfl _ (xa9 (b:=true) _ _ rfl _ _ rfl rfl kz2) ?_
 exact Y.1):q:=Y ⟨x⟩
def Xes(Y:Bx p→q:=by
 intro Y;refine X12 ?_;refine xaa rfl _ (xa9 (b:=true) _ _ rfl _ _ rfl rfl kz1) ?_
 exact Y.1):q:=Y ⟨x⟩
def Xet(Y:Bx p→q:=by
 intro Y;refine xaa rfl _ (xa9 (b:=false) _ _ rfl _ _ rfl rfl rfl) ?_
 exact Y.1):q:=Y ⟨x⟩
def Xeu(Y:Bx p→q:=by
 intro Y;refine xac rfl _ (xai sc25 HL _ rfl _ _ rfl _ _ _ (.head _) (Wrt.g_val _)) ?_;refine X6 ?_;refine xac rfl _ (xam underlying25 _ rfl x.val lx.length rfl HVN.out) ?_
 exact Y.1):q:=Y ⟨x⟩
def Xev(Y:Bx p→q:=by
 intro Y;refine X12 ?_;refine Xet ?_
 exact Y.1):q:=Y ⟨x⟩
def Xew(Y:Bx p→q:=by
 intro Y;refine Xev ?_;refine X1z ?_
 exact Y.1):q:=Y ⟨x⟩
def Xex(Y:Bx p→q:=by
 intro Y;refine X12 ?_;refine xaa rfl _ (xa9 (b:=true) _ _ rfl _ _ rfl rfl rfl) ?_;refine X1z ?_
 exact Y.1):q:=Y ⟨x⟩
def Xey(Y:Bx p→q:=by
 intro Y;refine X1v ?_;intro K hK;refine xad cf95 rfl _ rfl ?_;revert K hK
 exact Y.1):q:=Y ⟨x⟩
def Xez(Y:Bx p→q:=by
 intro Y;(with_reducible refine(xnz (HH.out.below HL.below)).mono ?_)
 exact Y.1):q:=Y ⟨x⟩
def Xf0(Y:Bx p→q:=by
 intro Y;refine xad cf40 rfl _ rfl ?_
 exact Y.1):q:=Y ⟨x⟩
def Xf1(Y:Bx p→q:=by
 intro Y;refine Xc ?_;refine bodyPost_ret (xay rfl ag24 _ _ g4 24 _ rfl (HL.blk (.head _)) (D32.cl _)) rfl ?_
 exact Y.1):q:=Y ⟨x⟩
def Xf2(Y:Bx p→q:=by
 intro Y;refine X1w ?_;(with_reducible refine(xnz HH.out).mono ?_)
 exact Y.1):q:=Y ⟨x⟩
def Xf3(Y:Bx p→q:=by
 intro Y;refine xaa rfl _ (xaf xsa _ rfl _ rfl) ?_;simp only[Act.put,qf,qg,qh]
 exact Y.1):q:=Y ⟨x⟩
def Xf4(Y:Bx p→q:=by
 intro Y;refine X14 ?_;refine xaa rfl _ (xaf xnb _ rfl _ rfl) ?_
 exact Y.1):q:=Y ⟨x⟩
def Xf5(Y:Bx p→q:=by
 intro Y;refine xaa rfl _ (xdr xl1 HL _ rfl _ rfl _ (by with_reducible assumption)) ?_
 exact Y.1):q:=Y ⟨x⟩
def Xf6(Y:Bx p→q:=by
 intro Y;refine xad cf82 rfl _ rfl ?_;simp only[qk,ql,Act.eval,qa,qb,qc,qd,qe]
 exact Y.1):q:=Y ⟨x⟩
def Xf7(Y:Bx p→q:=by
 intro Y;(with_reducible refine(xmj (HH.out.below HL.below)).mono ?_)
 exact Y.1):q:=Y ⟨x⟩
def Xf8(Y:Bx p→q:=by
 intro Y;refine Xc ?_;refine bodyPost_ret (xay rfl ag23 _ _ g4 23 _ rfl (HL.blk (.head _)) (D32.cl _)) rfl ?_
 exact Y.1):q:=Y ⟨x⟩
def Xf9(Y:Bx p→q:=by
 intro Y;refine X2j ?_;intro K hK;refine xad cf89 rfl _ rfl ?_;revert K hK
 exact Y.1):q:=Y ⟨x⟩
def Xfa(Y:Bx p→q:=by
 intro Y;refine X1w ?_;(with_reducible refine(xps (HH.out.below HL.below) A c key (HL.rdO HR.out) hc).mono ?_)
 exact Y.1):q:=Y ⟨x⟩
def Xfb(Y:Bx p→q:=by
 intro Y;refine X6w ?_;refine X4c ?_;intro w HL;revert w HL
 exact Y.1):q:=Y ⟨x⟩
def Xfc(Y:Bx p→q:=by
 intro Y;refine xah zr24 rfl rfl HL ?_;intro g7 w HL;refine Xfb ?_;clear HL;intro w HL;revert g7 w HL
 exact Y.1):q:=Y ⟨x⟩
def Xfd(Y:Bx p→q:=by
 intro Y;have HA:(∀ k,D k→¬ (Old w0 k∧¬ D k))∧∀ y∈[(g7,24,key.c)],¬ D y.1:=⟨fun k hk hd=>hd.2 hk,fun y hy hk=>(HL.own y hy).1 (HH.out.st.sb.lt _ hk)⟩;revert HA
 exact Y.1):q:=Y ⟨x⟩
def Xfe(Y:Bx p→q:=by
 intro Y;refine rB (Loc.P HL) [] [10] [0,1,2,3,4,5,6,7,8,9,10,11,12,13,14,15] 0 ?_
 exact Y.1):q:=Y ⟨x⟩
def Xff(Y:Bx p→q:=by
 intro Y;refine X3e ?_;intro HL;refine xab rfl rfl HL (fun W hW=>xaf xnb _ rfl _ rfl) ?_;refine X6 ?_;refine xab rfl rfl HL (fun W hW=>xa8 xl1 hW _ rfl _ rfl _ hgd hc1) ?_;revert HL
 exact Y.1):q:=Y ⟨x⟩
def Xfg(Y:Bx p→q:=by
 intro Y;refine X3h ?_;refine xab rfl rfl HL (fun W hW=>xaf xsa _ rfl _ rfl) ?_;simp only[Act.put,qf,qg,qh]
 exact Y.1):q:=Y ⟨x⟩
def Xfh(Y:Bx p→q:=by
 intro Y;refine Xff ?_;intro HL;refine Xfg ?_;refine xab rfl rfl HL (fun W hW=>xa8 sc3 hW _ rfl _ rfl _ hgd hc2) ?_;revert HL
 exact Y.1):q:=Y ⟨x⟩
def Xfi(Y:Bx p→q:=by
 intro Y;refine xa3 sc3 rfl _ _ rfl HL 0 _ _ _ _ _ _ rfl rfl rfl rfl (by simp) (rfl) ?_
 exact Y.1):q:=Y ⟨x⟩
def Xfj(Y:Bx p→q:=by
 intro Y;refine X6 ?_;refine xaa rfl _ (xai sc25 HL _ rfl _ _ rfl _ _ _ (.head _) (Rw.g_key _)) ?_
 exact Y.1):q:=Y ⟨x⟩
def Xfk(Y:Bx p→q:=by
 intro Y;refine xaa rfl _ (xao (b:=false) _ _ rfl _ _ rfl rfl rfl) ?_
 exact Y.1):q:=Y ⟨x⟩
def Xfl(Y:Bx p→q:=by
 intro Y;refine xaa rfl _ (xao (b:=true) _ _ rfl _ _ rfl rfl rfl) ?_
 exact Y.1):q:=Y ⟨x⟩
def Xfm(Y:Bx p→q:=by
 intro Y;refine X12 ?_;refine Xfl ?_
 exact Y.1):q:=Y ⟨x⟩
def Xfn(Y:Bx p→q:=by
 intro Y;refine xad cf182 rfl _ rfl ?_;simp only[qk,ql,Act.eval,qa,qb,qc,qd,qe]
 exact Y.1):q:=Y ⟨x⟩
def Xfo(Y:Bx p→q:=by
 intro Y;(with_reducible refine(vs_none (HH.out.below HL.below)).mono ?_)
 exact Y.1):q:=Y ⟨x⟩
def Xfp(Y:Bx p→q:=by
 intro Y;refine X14 ?_;refine xaa rfl _ (xaf xsj _ rfl _ rfl) ?_;simp only[Act.put,qf,qg,qh]
 exact Y.1):q:=Y ⟨x⟩
def Xfq(Y:Bx p→q:=by
 intro Y;refine Xfp ?_;refine xaa rfl _ (xa8 sc257 HL _ rfl _ rfl _ hgv hv1) ?_
 exact Y.1):q:=Y ⟨x⟩
def Xfr(Y:Bx p→q:=by
 intro Y;refine xaa rfl _ (xaf fa259_0 _ rfl _ rfl) ?_
 exact Y.1):q:=Y ⟨x⟩
def Xfs(Y:Bx p→q:=by
 intro Y;refine xaa rfl _ (xa8 xl1 HL _ rfl _ rfl _ hgv hv0) ?_
 exact Y.1):q:=Y ⟨x⟩
def Xft(Y:Bx p→q:=by
 intro Y;have CR:∀ u,Bw w u→Hid (Calls prog 128 #[pG gv,.string ⟨s.toArray⟩] u fun e w'=>e=.returned (.tuple #[iV z,iV 0])∧u=w'):=fun u hu=>hZ (vs_root (h.below hu) hnd s hs z j hj)
 revert CR
 exact Y.1):q:=Y ⟨x⟩
def Xfu(Y:Bx p→q:=by
 intro Y;refine xad cf128 rfl _ rfl ?_;simp only[qk,ql,Act.eval,qa,qb,qc,qd,qe]
 exact Y.1):q:=Y ⟨x⟩
def Xfv(Y:Bx p→q:=by
 intro Y;(with_reducible refine((CR _ HL.below).out).mono ?_)
 exact Y.1):q:=Y ⟨x⟩
def Xfw(Y:Bx p→q:=by
 intro Y;refine xab rfl rfl HL (fun W hW=>xap sl29 _ _ rfl g n cap i .i64 rfl rfl (by omega)) ?_
 exact Y.1):q:=Y ⟨x⟩
def Xfx(Y:Bx p→q:=by
 intro Y;refine Xh ?_;intro K hK;refine xbe ag23.i _ _ rfl g (i*32) 23 _ _ rfl rfl hb (D32.cl _) hil (D32.c1 _) ?_;revert K hK
 exact Y.1):q:=Y ⟨x⟩
def Xfy(Y:Bx p→q:=by
 intro Y;refine xcs rfl _ rfl HL _ rfl ?_;intro g1 w HL;refine X1a ?_;revert g1 w HL
 exact Y.1):q:=Y ⟨x⟩
def Xfz(Y:Bx p→q:=by
 intro Y;refine xaa rfl _ (xaf fa124_0 _ rfl _ rfl) ?_;refine X6 ?_;refine xaa rfl _ (xai sc30 HL _ rfl _ _ rfl _ _ _ (.head _) (Brv.g_kind _)) ?_
 exact Y.1):q:=Y ⟨x⟩
def Xg0(Y:Bx p→q:=by
 intro Y;refine Xt ?_;refine Xfz ?_
 exact Y.1):q:=Y ⟨x⟩
def Xg1(Y:Bx p→q:=by
 intro Y;refine Xg0 ?_;refine X1z ?_
 exact Y.1):q:=Y ⟨x⟩
def Xg2(Y:Bx p→q:=by
 intro Y;refine xaa rfl _ (xbn xl0 HL _ rfl _ rfl _ _ (.head _) (Brv.len _)) ?_
 exact Y.1):q:=Y ⟨x⟩
def Xg3(Y:Bx p→q:=by
 intro Y;refine xaa rfl _ (xk4 _ _ rfl b ⟨b.kind,D32.z,D32.z,D32.z⟩ rfl rfl r hr) ?_;refine X1a ?_
 exact Y.1):q:=Y ⟨x⟩
def Xg4(Y:Bx p→q:=by
 intro Y;refine xaa rfl _ (xao (b:=true) _ _ rfl _ _ rfl rfl k2) ?_
 exact Y.1):q:=Y ⟨x⟩
def Xg5(Y:Bx p→q:=by
 intro Y;refine Xt ?_;refine Xal ?_;refine X1a ?_
 exact Y.1):q:=Y ⟨x⟩
def Xg6(Y:Bx p→q:=by
 intro Y;refine xaa rfl _ (xao (b:=true) _ _ rfl _ _ rfl rfl k1) ?_
 exact Y.1):q:=Y ⟨x⟩
def Xg7(Y:Bx p→q:=by
 intro Y;refine xaa rfl _ (xaf fa124_3 _ rfl _ rfl) ?_
 exact Y.1):q:=Y ⟨x⟩
def Xg8(Y:Bx p→q:=by
 intro Y;refine xaa rfl _ (xav ag23 HL _ rfl _ _ rfl _ _ _ (.head _) (Brv.g_dig _) (D32.cl _)) ?_
 exact Y.1):q:=Y ⟨x⟩
def Xg9(Y:Bx p→q:=by
 intro Y;refine xaa rfl _ (xc2 _ rfl D32.z.c.toArray (by kernel_rfl)) ?_
 exact Y.1):q:=Y ⟨x⟩
def Xga(Y:Bx p→q:=by
 intro Y;refine xaa rfl _ (xb3 underlying26 _ rfl _ _ _ rfl) ?_
 exact Y.1):q:=Y ⟨x⟩
def Xgb(Y:Bx p→q:=by
 intro Y;refine Xga ?_;simp only[Act.put,qf,qg,qh]
 exact Y.1):q:=Y ⟨x⟩
def Xgc(Y:Bx p→q:=by
 intro Y;refine X19 ?_;refine Xgb ?_
 exact Y.1):q:=Y ⟨x⟩
def Xgd(Y:Bx p→q:=by
 intro Y;refine Xgc ?_;refine Xap ?_
 exact Y.1):q:=Y ⟨x⟩
def Xge(Y:Bx p→q:=by
 intro Y;refine xac rfl _ (xaz sl26 (.tmp 11) _ rfl ad n c i .i64 HSV.out rfl hlt) ?_
 exact Y.1):q:=Y ⟨x⟩
def Xgf(Y:Bx p→q:=by
 intro Y;refine xac rfl _ (xa5 ag24 _ rfl _ ks[i].c rfl (HL.rdO HE.out) (by omega) (D32.cl _)) ?_
 exact Y.1):q:=Y ⟨x⟩
def Xgg(Y:Bx p→q:=by
 intro Y;refine xac rfl _ (xao (b:=true) _ _ rfl _ _ rfl rfl rfl) ?_;refine X28 ?_
 exact Y.1):q:=Y ⟨x⟩
def Xgh(Y:Bx p→q:=by
 intro Y;refine xac rfl _ (xao (b:=false) _ _ rfl _ _ rfl rfl rfl) ?_;refine X28 ?_
 exact Y.1):q:=Y ⟨x⟩
def Xgi(Y:Bx p→q:=by
 intro Y;refine xaa rfl _ (xgi underlying9 _ rfl s rfl) ?_
 exact Y.1):q:=Y ⟨x⟩
def Xgj(Y:Bx p→q:=by
 intro Y;refine xaa rfl _ (xax (b:=true) _ _ rfl _ _ rfl rfl k1) ?_
 exact Y.1):q:=Y ⟨x⟩
def Xgk(Y:Bx p→q:=by
 intro Y;refine xaa rfl _ (xax (b:=false) _ _ rfl _ _ rfl rfl k1) ?_
 exact Y.1):q:=Y ⟨x⟩
def Xgl(Y:Bx p→q:=by
 intro Y;refine xac rfl _ (xao (b:=false) _ _ rfl _ _ rfl rfl k0) ?_
 exact Y.1):q:=Y ⟨x⟩
def Xgm(Y:Bx p→q:=by
 intro Y;refine X26 ?_;refine X1m ?_
 exact Y.1):q:=Y ⟨x⟩
def Xgn(Y:Bx p→q:=by
 intro Y;refine Xgm ?_;refine xac rfl _ (xdq (b:=true) _ _ rfl _ _ rfl rfl k3) ?_
 exact Y.1):q:=Y ⟨x⟩
def Xgo(Y:Bx p→q:=by
 intro Y;refine xaa rfl _ (xaf xr9 _ rfl _ rfl) ?_
 exact Y.1):q:=Y ⟨x⟩
def Xgp(Y:Bx p→q:=by
 intro Y;refine xaa rfl _ (xaf xr8 _ rfl _ rfl) ?_
 exact Y.1):q:=Y ⟨x⟩
def Xgq(Y:Bx p→q:=by
 intro Y;have HSO:Hid (∀ i,i≤way.length→(subF key 0 told i).Ok i∧Near key i (subF key 0 told i)∧(subF key 0 told i).size≤told.size):=hZ (fun i hi=>xrh hok i fun j hj=>(hw.sub j (by omega)).1);revert HSO
 exact Y.1):q:=Y ⟨x⟩
def Xgr(Y:Bx p→q:=by
 intro Y;have HRT:Hid (∀ u,StP D u gs g σ vs vf→Calls prog 143 #[pG gs,iV root] u (oB u (iV 0))):=hZ (xs1 hI ht);revert HRT
 exact Y.1):q:=Y ⟨x⟩
def Xgs(Y:Bx p→q:=by
 intro Y;have HB1:Hid (Bw w0 w):=hZ (HL.below.trans (hb.mono HL.below.size));revert HB1
 exact Y.1):q:=Y ⟨x⟩
def Xgt(Y:Bx p→q:=by
 intro Y;have HIN:Hid (InS D w2 gs g σ (rt1 root R) σ.used σ w2):=hZ ⟨⟨D,vs,vf,HP0.out.1,Stp.refl _ _⟩,HI.out,fun i hi hc=>⟨hi,rfl,rfl,hc⟩,rfl,Nat.le_refl _⟩;revert HIN
 exact Y.1):q:=Y ⟨x⟩
def Xgu(Y:Bx p→q:=by
 intro Y;have HRDW:∀ wx,Loc w2 (fun k=>Old w2 k∧¬ D k) [] wx→Hid (Rd wx v.A (iZ way)):=fun wx hx=>hZ (HWR.out.keepE hx (fun hne ad e=>HDV.out ad e hne))
 revert HRDW
 exact Y.1):q:=Y ⟨x⟩
def Xgv(Y:Bx p→q:=by
 intro Y;refine xaa rfl _ (xc9 ag24 HL _ rfl _ _ rfl _ _ _ hO6 HB6.out hcK (D32.cl _)) ?_
 exact Y.1):q:=Y ⟨x⟩
def Xgw(Y:Bx p→q:=by
 intro Y;refine xaa rfl _ (xa8 sc71 HL _ rfl _ rfl _ hO11 hc0) ?_
 exact Y.1):q:=Y ⟨x⟩
def Xgx(Y:Bx p→q:=by
 intro Y;refine xaa rfl _ (xam underlying71 _ rfl v way.length rfl HVN.out) ?_
 exact Y.1):q:=Y ⟨x⟩
def Xgy(Y:Bx p→q:=by
 intro Y;have hsi:=(HW.out.sub d hd1).1;obtain⟨s1,s2,s3,s4,s5,s6,s7⟩:=xn8 hsd.1 hsd.2.1 hsi;revert hsi s1 s2 s3 s4 s5 s6 s7
 exact Y.1):q:=Y ⟨x⟩
def Xgz(Y:Bx p→q:=by
 intro Y;have HAT:Hid ((iZ way)[d*1]? = some (iV zw)):=hZ (iZ_at hat5);revert HAT
 exact Y.1):q:=Y ⟨x⟩
def Xh0(Y:Bx p→q:=by
 intro Y;refine xaa rfl _ (xa9 (b:=!bo) _ _ rfl _ _ rfl rfl (by rw[HBO.out,Bool.not_not])) ?_
 exact Y.1):q:=Y ⟨x⟩
def Xh1(Y:Bx p→q:=by
 intro Y;refine X7n ?_;(with_reducible refine(xgd (HH.out.below HL.below) z n val true HG.out).mono ?_)
 exact Y.1):q:=Y ⟨x⟩
def Xh2(Y:Bx p→q:=by
 intro Y;(with_reducible refine(xcy (HP.out.below HL.below) fin nf vl okf HGF.out).mono ?_)
 exact Y.1):q:=Y ⟨x⟩
def Xh3(Y:Bx p→q:=by
 intro Y;rintro e w ⟨rfl,hb⟩;replace HX:=HX.next hb;replace HL:=HL.next hb;revert w hb HX HL
 exact Y.1):q:=Y ⟨x⟩
def Xh4(Y:Bx p→q:=by
 intro Y;refine xab rfl rfl HL (fun W hW=>xao (b:=true) _ _ rfl _ _ rfl rfl HLF.out) ?_;refine X95 ?_
 exact Y.1):q:=Y ⟨x⟩
def Xh5(Y:Bx p→q:=by
 intro Y;refine xab rfl rfl HL (fun W hW=>xc9 ag24 hW _ rfl _ _ rfl _ _ _ hO5 HB5.out hcK (D32.cl _)) ?_
 exact Y.1):q:=Y ⟨x⟩
def Xh6(Y:Bx p→q:=by
 intro Y;(with_reducible refine(xij (HP.out.below HL.below) fin nf vl okf HGF.out).mono ?_)
 exact Y.1):q:=Y ⟨x⟩
def Xh7(Y:Bx p→q:=by
 intro Y;refine xab rfl rfl HL (fun W hW=>xd1 ab23 _ _ rfl nf.key key rfl rfl ke HKE.out) ?_
 exact Y.1):q:=Y ⟨x⟩
def Xh8(Y:Bx p→q:=by
 intro Y;refine xab rfl rfl HL (fun W hW=>xbp bs343 _ rfl _ (by exact xp0 v ke)) ?_
 exact Y.1):q:=Y ⟨x⟩
def Xh9(Y:Bx p→q:=by
 intro Y;have HL:Loc w2 (Old w2) [] w:=HX.drop _ (sB _ _);revert HL
 exact Y.1):q:=Y ⟨x⟩
def Xha(Y:Bx p→q:=by
 intro Y;refine xmm xl2 _ _ rfl HX 0 g10 343 Pln.z.cells (⟨v,ke,0,0,false⟩:Pln).cells rfl rfl rfl (Pln.len _) (Pln.len _) (Pln.one _) ?_
 exact Y.1):q:=Y ⟨x⟩
def Xhb(Y:Bx p→q:=by
 intro Y;refine X3r ?_;refine Xb ?_
 exact Y.1):q:=Y ⟨x⟩
def Xhc(Y:Bx p→q:=by
 intro Y;refine xab rfl rfl HL (fun W hW=>xao (b:=false) _ _ rfl _ _ rfl rfl HLF.out) ?_;refine X3g ?_
 exact Y.1):q:=Y ⟨x⟩
def Xhd(Y:Bx p→q:=by
 intro Y;refine xab rfl rfl HL (fun W hW=>xbp bs343 _ rfl _ (by exact xp0 v false)) ?_
 exact Y.1):q:=Y ⟨x⟩
def Xhe(Y:Bx p→q:=by
 intro Y;refine xmm xl2 _ _ rfl HX 0 g10 343 Pln.z.cells (⟨v,false,0,0,false⟩:Pln).cells rfl rfl rfl (Pln.len _) (Pln.len _) (Pln.one _) ?_
 exact Y.1):q:=Y ⟨x⟩
def Xhf(Y:Bx p→q:=by
 intro Y;refine xaa rfl _ (xao (b:=false) _ _ rfl _ _ rfl rfl k8) ?_
 exact Y.1):q:=Y ⟨x⟩
def Xhg(Y:Bx p→q:=by
 intro Y;refine xaa rfl _ (xaf xsm _ rfl _ rfl) ?_
 exact Y.1):q:=Y ⟨x⟩
def Xhh(Y:Bx p→q:=by
 intro Y;refine X6 ?_;refine xaa rfl _ (xai sc3 HL _ rfl _ _ rfl _ _ _ (.head _) (Pln.g_stays _)) ?_
 exact Y.1):q:=Y ⟨x⟩
def Xhi(Y:Bx p→q:=by
 intro Y;refine xaa rfl _ (xaf xsn _ rfl _ rfl) ?_
 exact Y.1):q:=Y ⟨x⟩
def Xhj(Y:Bx p→q:=by
 intro Y;refine xaa rfl _ (xbn xl2 HL _ rfl _ rfl _ _ (.head _) (Pln.len _)) ?_
 exact Y.1):q:=Y ⟨x⟩
def Xhk(Y:Bx p→q:=by
 intro Y;refine xbo xl2 rfl _ _ rfl HL 1 _ _ _ _ rfl rfl rfl (Pln.len _) (Pln.len _) (Pln.one _) ?_
 exact Y.1):q:=Y ⟨x⟩
def Xhl(Y:Bx p→q:=by
 intro Y;(try simp only[Exit.inBlock,Exit.then,Exit.noGoto_ret])
 exact Y.1):q:=Y ⟨x⟩
def Xhm(Y:Bx p→q:=by
 intro Y;refine bodyPost_ret (xb8 rfl xl2 _ _ g6 343 _ rfl (HL.blk (.tail _ (.head _))) (Pln.len _)) rfl ?_
 exact Y.1):q:=Y ⟨x⟩
def Xhn(Y:Bx p→q:=by
 intro Y;refine X19 ?_;refine xaa rfl _ (xc9 ag24 HL _ rfl _ _ rfl _ _ _ hO5 HB5.out hcK (D32.cl _)) ?_
 exact Y.1):q:=Y ⟨x⟩
def Xho(Y:Bx p→q:=by
 intro Y;(with_reducible refine(xps (HH.out.dc.below HL.below) A c key (HL.rdO HR.out) hc).mono ?_)
 exact Y.1):q:=Y ⟨x⟩
def Xhp(Y:Bx p→q:=by
 intro Y;have hgd:Old w0 gd∧¬ D gd:=⟨HH.out.blk.lt,HH.out.fd⟩;have HB:Hid (Below w0.heap.size w0 w.drew):=hZ HL.drew.below;revert hgd HB
 exact Y.1):q:=Y ⟨x⟩
def Xhq(Y:Bx p→q:=by
 intro Y;refine X1w ?_;(with_reducible refine((CP _ HB.out).out).mono ?_)
 exact Y.1):q:=Y ⟨x⟩
def Xhr(Y:Bx p→q:=by
 intro Y;have HS2:Hid (Stp (dA D gd gv gm) w0 (dA D2 gd gv gm) w):=hZ ((Stp.of_below HB.out).trans hS2.dict);have HQ:=hZ (And.intro hI2 (And.intro hK2 (And.intro hT2 (And.intro hr2 (And.intro hu2 hsp2)))));revert HS2 HQ
 exact Y.1):q:=Y ⟨x⟩
def Xhs(Y:Bx p→q:=by
 intro Y;(with_reducible refine(xu7 (HH.out.dc.below HL.below) A n c l (HL.rdO HR.out) hl hn hc hb).mono ?_)
 exact Y.1):q:=Y ⟨x⟩
def Xht(Y:Bx p→q:=by
 intro Y;have CR:∀ u,Bw w u→Hid (Calls prog 128 #[pG gv,.string ⟨s.toArray⟩] u fun e w'=>e=.returned (.tuple #[iV 0,iV 7])∧u=w'):=fun u hu=>hZ (xrl (h.below hu) s hs hno)
 revert CR
 exact Y.1):q:=Y ⟨x⟩
def Xhu(Y:Bx p→q:=by
 intro Y;refine xad cf123 rfl _ rfl ?_;simp only[qk,ql,Act.eval,qa,qb,qc,qd,qe]
 exact Y.1):q:=Y ⟨x⟩
def Xhv(Y:Bx p→q:=by
 intro Y;(with_reducible refine(xs6 (HH.out.below HL.below).dc).mono ?_)
 exact Y.1):q:=Y ⟨x⟩
def Xhw(Y:Bx p→q:=by
 intro Y;refine xaa rfl _ (xa8 sc161 HL _ rfl _ rfl _ hgd hc0) ?_
 exact Y.1):q:=Y ⟨x⟩
def Xhx(Y:Bx p→q:=by
 intro Y;refine Xt ?_;refine xaa rfl _ (xaf fa159_0 _ rfl _ rfl) ?_;refine X6 ?_;refine xaa rfl _ (xai sc5 HL _ rfl _ _ rfl _ _ _ (.head _) (Acv.g_kind _)) ?_;refine X1z ?_
 exact Y.1):q:=Y ⟨x⟩
def Xhy(Y:Bx p→q:=by
 intro Y;refine X6 ?_;refine xaa rfl _ (xai sc25 HL _ rfl _ _ rfl _ _ _ (.head _) (Acv.g_key _)) ?_
 exact Y.1):q:=Y ⟨x⟩
def Xhz(Y:Bx p→q:=by
 intro Y;refine xad cf34 rfl _ rfl ?_;simp only[qk,ql,Act.eval,qa,qb,qc,qd,qe]
 exact Y.1):q:=Y ⟨x⟩
def Xi0(Y:Bx p→q:=by
 intro Y;have HS:=hZ ((Stp.of_below HL.below).trans hs);revert HS
 exact Y.1):q:=Y ⟨x⟩
def Xi1(Y:Bx p→q:=by
 intro Y;refine xaa rfl _ (xaf fa159_4 _ rfl _ rfl) ?_
 exact Y.1):q:=Y ⟨x⟩
def Xi2(Y:Bx p→q:=by
 intro Y;refine xaa rfl _ (xai sc73 HL _ rfl _ _ rfl _ _ _ (.head _) (Acv.g_ls _)) ?_
 exact Y.1):q:=Y ⟨x⟩
def Xi3(Y:Bx p→q:=by
 intro Y;refine xaa rfl _ (xaf fa159_1 _ rfl _ rfl) ?_
 exact Y.1):q:=Y ⟨x⟩
def Xi4(Y:Bx p→q:=by
 intro Y;refine xaa rfl _ (xai sc9 HL _ rfl _ _ rfl _ _ _ (.head _) (Acv.g_name _)) ?_
 exact Y.1):q:=Y ⟨x⟩
def Xi5(Y:Bx p→q:=by
 intro Y;refine Xt ?_;refine xaa rfl _ (xao (b:=false) _ _ rfl _ _ rfl rfl k7) ?_;refine X1a ?_
 exact Y.1):q:=Y ⟨x⟩
def Xi6(Y:Bx p→q:=by
 intro Y;refine xaa rfl _ (xao (b:=true) _ _ rfl _ _ rfl rfl k9) ?_
 exact Y.1):q:=Y ⟨x⟩
def Xi7(Y:Bx p→q:=by
 intro Y;refine xaa rfl _ (xao (b:=false) _ _ rfl _ _ rfl rfl k9) ?_;refine X1a ?_
 exact Y.1):q:=Y ⟨x⟩
def Xi8(Y:Bx p→q:=by
 intro Y;refine xlp bt _ _ rfl .i64 .i64 32 32 rfl rfl (by omega) (by omega) ?_
 exact Y.1):q:=Y ⟨x⟩
def Xi9(Y:Bx p→q:=by
 intro Y;have hbw:Below w1.heap.size w1 ((w1.drew.alloc (.cells (bvs (List.replicate 32 0)).toArray 5)).alloc (.cells (bvs (List.replicate 32 0)).toArray 5)):=((Below.refl _ w1).drew).trans h2.2.2.2.2;revert hbw
 exact Y.1):q:=Y ⟨x⟩
def Xia(Y:Bx p→q:=by
 intro Y;refine X5p ?_;refine X4c ?_;intro w HL;revert w HL
 exact Y.1):q:=Y ⟨x⟩
def Xib(Y:Bx p→q:=by
 intro Y;refine Xt ?_;refine Xg9 ?_
 exact Y.1):q:=Y ⟨x⟩
def Xic(Y:Bx p→q:=by
 intro Y;(with_reducible refine(xjn _ none 0 0 [] (Rd.nil _ _) rfl (by omega) (by omega) (by omega)).mono ?_)
 exact Y.1):q:=Y ⟨x⟩
def Xid(Y:Bx p→q:=by
 intro Y;refine X1w ?_;(with_reducible refine(xig _ ky (tagV [])).mono ?_)
 exact Y.1):q:=Y ⟨x⟩
def Xie(Y:Bx p→q:=by
 intro Y;refine X19 ?_;refine xaa rfl _ (xam underlying84 _ rfl ⟨A,n,c⟩ n rfl rfl) ?_
 exact Y.1):q:=Y ⟨x⟩
def Xif(Y:Bx p→q:=by
 intro Y;refine xaa rfl _ (xax (b:=true) _ _ rfl _ _ rfl rfl k3) ?_
 exact Y.1):q:=Y ⟨x⟩
def Xig(Y:Bx p→q:=by
 intro Y;refine xac rfl _ (xax (b:=bb) _ _ rfl _ _ rfl rfl hbb) ?_;refine X28 ?_
 exact Y.1):q:=Y ⟨x⟩
def Xih(Y:Bx p→q:=by
 intro Y;refine xaa rfl _ (xax (b:=false) _ _ rfl _ _ rfl rfl k3) ?_
 exact Y.1):q:=Y ⟨x⟩
def Xii(Y:Bx p→q:=by
 intro Y;refine xaa rfl _ (xam underlying26 _ rfl ⟨A,n,c⟩ n rfl rfl) ?_
 exact Y.1):q:=Y ⟨x⟩
def Xij(Y:Bx p→q:=by
 intro Y;refine xab rfl rfl HL (fun W hW=>xap sl26 _ _ rfl g n c (m+1) .i64 rfl rfl hjn) ?_
 exact Y.1):q:=Y ⟨x⟩
def Xik(Y:Bx p→q:=by
 intro Y;refine xab rfl rfl HL (fun W hW=>xav ag24 hW _ rfl g ((m+1)*32) rfl 24 _ x.c (.head _) Hx (D32.cl _)) ?_
 exact Y.1):q:=Y ⟨x⟩
def Xil(Y:Bx p→q:=by
 intro Y;refine xab rfl rfl HL (fun W hW=>xap sl26 _ _ rfl g n c m .i64 rfl rfl (by omega)) ?_
 exact Y.1):q:=Y ⟨x⟩
def Xim(Y:Bx p→q:=by
 intro Y;refine xab rfl rfl HL (fun W hW=>xav ag24 hW _ rfl g (m*32) rfl 24 _ y.c (.head _) Hy (D32.cl _)) ?_
 exact Y.1):q:=Y ⟨x⟩
def Xin(Y:Bx p→q:=by
 intro Y;refine Xh ?_;intro K hK;refine xbe ag24.i _ _ rfl g ((m+1)*32) 24 _ _ rfl rfl hb (D32.cl _) hjl (D32.c1 _) ?_;revert K hK
 exact Y.1):q:=Y ⟨x⟩
def Xio(Y:Bx p→q:=by
 intro Y;refine xaa rfl _ (xax _ _ rfl _ _ rfl rfl k2) ?_
 exact Y.1):q:=Y ⟨x⟩
def Xip(Y:Bx p→q:=by
 intro Y;refine xab rfl rfl HL (fun W hW=>xaf xnc _ rfl _ rfl) ?_
 exact Y.1):q:=Y ⟨x⟩
def Xiq(Y:Bx p→q:=by
 intro Y;refine xab rfl rfl HL (fun W hW=>xai sc128 hW _ rfl _ _ rfl _ _ _ (.tail _ (.head _)) (xrg _ _ _)) ?_
 exact Y.1):q:=Y ⟨x⟩
def Xir(Y:Bx p→q:=by
 intro Y;refine xab rfl rfl HL (fun W hW=>xaf xjo _ rfl _ rfl) ?_
 exact Y.1):q:=Y ⟨x⟩
def Xis(Y:Bx p→q:=by
 intro Y;have HL:=HX.drop [(g5,23,h.c),(gr,199,rdrC rest tagE ⟨aS gw,n,n⟩),(gw,34,(ys++x::zs').flatMap Prv.cells)] (by simp);revert HL
 exact Y.1):q:=Y ⟨x⟩
def Xit(Y:Bx p→q:=by
 intro Y;refine xah zr23 rfl rfl HL ?_;intro g12 w HL;revert g12 w HL
 exact Y.1):q:=Y ⟨x⟩
def Xiu(Y:Bx p→q:=by
 intro Y;refine Xt ?_;refine X9y ?_;intro g10 w HL;refine X6 ?_;refine Xit ?_;clear HL;intro g12 w HL;refine X1a ?_;revert g10 g12 w HL
 exact Y.1):q:=Y ⟨x⟩
def Xiv(Y:Bx p→q:=by
 intro Y;refine xaa rfl _ (xaf xsb _ rfl _ rfl) ?_;simp only[Act.put,qf,qg,qh]
 exact Y.1):q:=Y ⟨x⟩
def Xiw(Y:Bx p→q:=by
 intro Y;refine X14 ?_;refine Xiv ?_;refine xaa rfl _ (xai sc42 HL _ rfl _ _ rfl _ _ _ (.tail _ (.tail _ (.head _))) (xn6 _ _ _)) ?_;simp only[Act.put,qf,qg,qh]
 exact Y.1):q:=Y ⟨x⟩
def Xix(Y:Bx p→q:=by
 intro Y;refine Xiw ?_;refine xaa rfl _ (xb3 underlying42 _ rfl _ _ _ rfl) ?_;simp only[Act.put,qf,qg,qh]
 exact Y.1):q:=Y ⟨x⟩
def Xiy(Y:Bx p→q:=by
 intro Y;refine Xc ?_;refine bodyPost_ret (xay rfl ag23 _ _ g12 23 _ rfl (HL.blk (.head _)) (D32.cl _)) rfl ?_
 exact Y.1):q:=Y ⟨x⟩
def Xiz(Y:Bx p→q:=by
 intro Y;refine X24 ?_;refine X1p ?_;refine xac rfl _ (xaf xsb _ rfl _ rfl) ?_;simp only[Act.put,qf,qg,qh]
 exact Y.1):q:=Y ⟨x⟩
def Xj0(Y:Bx p→q:=by
 intro Y;refine Xix ?_;refine X9w ?_;refine Xiz ?_;refine xac rfl _ (xai sc42 HL _ rfl _ _ rfl _ _ _ (.tail _ (.tail _ (.head _))) (xn6 _ _ _)) ?_;refine X6 ?_;refine xac rfl _ (xaz sl42 (.tmp 33) _ rfl ad rest.n rest.c 0 .i64 HSV.out rfl hr0) ?_;refine X6 ?_;refine xac rfl _ (xa5 xl0 _ rfl _ b.cells rfl (hbrd _ _ HL) (by omega) (Brv.len _)) ?_;refine X6 ?_;refine X5i ?_;intro K hK;refine xad cf166 rfl _ rfl ?_;refine Xaw ?_;refine X4y ?_;clear hK K;intro w HL;revert w HL
 exact Y.1):q:=Y ⟨x⟩
def Xj1(Y:Bx p→q:=by
 intro Y;refine Xj0 ?_;intro w HL;refine xac rfl _ (xgs (b:=false) _ rfl true rfl rfl) ?_;refine X28 ?_;revert w HL
 exact Y.1):q:=Y ⟨x⟩
def Xj2(Y:Bx p→q:=by
 intro Y;refine Xiw ?_;refine xaa rfl _ (xaz sl42 (.tmp 43) _ rfl ad rest.n rest.c 0 .i64 HSV.out rfl hr0) ?_;refine X6 ?_;refine xaa rfl _ (xa5 xl0 _ rfl _ b.cells rfl (hbrd _ _ HL) (by omega) (Brv.len _)) ?_;refine X6 ?_;refine xah zr124 rfl rfl HL ?_;intro g14 w HL;refine X6 ?_;refine xbo xl0 rfl _ _ rfl HL 0 _ _ _ _ rfl rfl rfl (Brv.len _) (Brv.len _) (Brv.one _) ?_;refine X34 ?_;clear HL;intro w HL;revert g14 w HL
 exact Y.1):q:=Y ⟨x⟩
def Xj3(Y:Bx p→q:=by
 intro Y;refine X30 ?_;refine Xiv ?_;refine xaa rfl _ (xai sc42 HL _ rfl _ _ rfl _ _ _ (.tail _ (.tail _ (.tail _ (.head _)))) (xn6 _ _ _)) ?_;refine X6 ?_;refine xaa rfl _ (xbt sl42 (.tmp 50) _ rfl rest.A rest.n rest.c 1 .i64 rfl rfl hr0) ?_;refine X16 ?_;refine Xiv ?_
 exact Y.1):q:=Y ⟨x⟩
def Xj4(Y:Bx p→q:=by
 intro Y;refine X2t ?_;intro w HL;have HT:=hB.tail;revert w HL HT
 exact Y.1):q:=Y ⟨x⟩
def Xj5(Y:Bx p→q:=by
 intro Y;refine X4v ?_;refine X4c ?_;intro w HL;revert w HL
 exact Y.1):q:=Y ⟨x⟩
def Xj6(Y:Bx p→q:=by
 intro Y;refine Xc ?_;refine bodyPost_ret (xay rfl ag23 _ _ g12 23 _ rfl (HL.blk (.tail _ (.head _))) (D32.cl _)) rfl ?_
 exact Y.1):q:=Y ⟨x⟩
def Xj7(Y:Bx p→q:=by
 intro Y;refine xaa rfl _ (xbq (b:=true) _ _ rfl _ _ rfl rfl k5) ?_
 exact Y.1):q:=Y ⟨x⟩
def Xj8(Y:Bx p→q:=by
 intro Y;refine xaa rfl _ (xgs (b:=false) _ rfl true rfl rfl) ?_
 exact Y.1):q:=Y ⟨x⟩
def Xj9(Y:Bx p→q:=by
 intro Y;refine xaa rfl _ (xbq (b:=false) _ _ rfl _ _ rfl rfl k5) ?_
 exact Y.1):q:=Y ⟨x⟩
def Xja(Y:Bx p→q:=by
 intro Y;refine xaa rfl _ (xgs (b:=true) _ rfl false rfl rfl) ?_
 exact Y.1):q:=Y ⟨x⟩
def Xjb(Y:Bx p→q:=by
 intro Y;refine xaa rfl _ (xao (b:=true) _ _ rfl _ _ rfl rfl k11) ?_;refine X1a ?_
 exact Y.1):q:=Y ⟨x⟩
def Xjc(Y:Bx p→q:=by
 intro Y;(with_reducible refine(end_any gr gw rest1 n xs Gs M b lo hi _ hW HXL.out hlh (by omega) (Loc.lend (Loc.inY [_,_,_] HL))).mono ?_)
 exact Y.1):q:=Y ⟨x⟩
def Xjd(Y:Bx p→q:=by
 intro Y;refine xaa rfl _ (xav ag24 HL _ rfl _ _ rfl _ _ _ (.head _) (Brv.g_key _) (D32.cl _)) ?_
 exact Y.1):q:=Y ⟨x⟩
def Xje(Y:Bx p→q:=by
 intro Y;refine xaa rfl _ (xav ag23 HL _ rfl _ _ rfl _ _ _ (.head _) (Brv.g_val _) (D32.cl _)) ?_
 exact Y.1):q:=Y ⟨x⟩
def Xjf(Y:Bx p→q:=by
 intro Y;refine xaa rfl _ (xao (b:=false) _ _ rfl _ _ rfl rfl k11) ?_
 exact Y.1):q:=Y ⟨x⟩
def Xjg(Y:Bx p→q:=by
 intro Y;refine xaa rfl _ (xbn ag23 HL _ rfl _ rfl _ _ (.head _) (D32.cl _)) ?_
 exact Y.1):q:=Y ⟨x⟩
def Xjh(Y:Bx p→q:=by
 intro Y;refine xaa rfl _ (xbn ag23 HL _ rfl _ rfl _ _ (.tail _ (.tail _ (.head _))) (D32.cl _)) ?_
 exact Y.1):q:=Y ⟨x⟩
def Xji(Y:Bx p→q:=by
 intro Y;refine X6 ?_;refine xbo ag23 rfl _ _ rfl HL 2 _ _ _ _ rfl rfl rfl (D32.cl _) (D32.cl _) (D32.c1 _) ?_
 exact Y.1):q:=Y ⟨x⟩
def Xjj(Y:Bx p→q:=by
 intro Y;refine bodyPost_ret (xn5 rfl ag23 _ _ g4 23 _ rfl (HL.blk (.head _)) (D32.cl _)) rfl ?_
 exact Y.1):q:=Y ⟨x⟩
def Xjk(Y:Bx p→q:=by
 intro Y;refine X6 ?_;refine xac rfl _ (xai sc42 HL _ rfl _ _ rfl _ _ _ (.tail _ (.head _)) rfl) ?_
 exact Y.1):q:=Y ⟨x⟩
def Xjl(Y:Bx p→q:=by
 intro Y;refine xac rfl _ (xb3 underlying42 _ rfl _ _ _ rfl) ?_
 exact Y.1):q:=Y ⟨x⟩
def Xjm(Y:Bx p→q:=by
 intro Y;refine xab rfl rfl HL (fun W hW=>xa2 _ _ rfl _ _ _ rfl rfl HI.out (by omega)) ?_;simp only[Act.put,qf,qg,qh]
 exact Y.1):q:=Y ⟨x⟩
def Xjn(Y:Bx p→q:=by
 intro Y;refine xab rfl rfl HL (fun W hW=>xa5 ag24 _ rfl _ ka.c rfl (hW.rdO HE1.out) (by omega) (D32.cl _)) ?_
 exact Y.1):q:=Y ⟨x⟩
def Xjo(Y:Bx p→q:=by
 intro Y;refine xab rfl rfl HL (fun W hW=>xaz sl26 (.tmp 33) _ rfl ad n c i1 .i64 HSV.out rfl hlt) ?_
 exact Y.1):q:=Y ⟨x⟩
def Xjp(Y:Bx p→q:=by
 intro Y;refine xab rfl rfl HL (fun W hW=>xa5 ag24 _ rfl _ kb.c rfl (hW.rdO HE2.out) (by omega) (D32.cl _)) ?_
 exact Y.1):q:=Y ⟨x⟩
def Xjq(Y:Bx p→q:=by
 intro Y;refine xab rfl rfl HL (fun W hW=>xce _ _ rfl _ _ rfl rfl k10) ?_;refine Xb ?_
 exact Y.1):q:=Y ⟨x⟩
def Xjr(Y:Bx p→q:=by
 intro Y;refine xab rfl rfl HL (fun W hW=>xbp bs199 _ rfl _ (by exact bd199_17 ps tagE ⟨aS gw,n,n⟩)) ?_
 exact Y.1):q:=Y ⟨x⟩
def Xjs(Y:Bx p→q:=by
 intro Y;refine xac rfl _ (xai sc42 HL _ rfl _ _ rfl _ _ _ (.tail _ (.tail _ (.tail _ (.head _)))) (xn6 _ _ _)) ?_
 exact Y.1):q:=Y ⟨x⟩
def Xjt(Y:Bx p→q:=by
 intro Y;refine bodyPost_ret (xn5 rfl ag23 _ _ g4 23 _ rfl (HL.blk (.tail _ (.head _))) (D32.cl _)) rfl ?_
 exact Y.1):q:=Y ⟨x⟩
def Xju(Y:Bx p→q:=by
 intro Y;refine xaa rfl _ (xai sc128 HL _ rfl _ _ rfl _ _ _ (.tail _ (.tail _ (.tail _ (.head _)))) (xrg _ _ _)) ?_
 exact Y.1):q:=Y ⟨x⟩
def Xjv(Y:Bx p→q:=by
 intro Y;refine xaa rfl _ (xbn ag44 HL _ rfl _ rfl _ _ (.tail _ (.head _)) rfl) ?_
 exact Y.1):q:=Y ⟨x⟩
def Xjw(Y:Bx p→q:=by
 intro Y;(with_reducible refine(xrp A n c ks ps bs _ (HKS.out.below HL.below) (HBS.out.below HL.below) hnn).mono ?_)
 exact Y.1):q:=Y ⟨x⟩
def Xjx(Y:Bx p→q:=by
 intro Y;refine X12 ?_;refine xaa rfl _ (xam underlying26 _ rfl Sv.nil 0 rfl rfl) ?_
 exact Y.1):q:=Y ⟨x⟩
def Xjy(Y:Bx p→q:=by
 intro Y;refine xaa rfl _ (xam underlying26 _ rfl ⟨aS g,n,c⟩ n rfl rfl) ?_
 exact Y.1):q:=Y ⟨x⟩
def Xjz(Y:Bx p→q:=by
 intro Y;refine X12 ?_;refine xaa rfl _ (xa6 _ _ rfl _ _ _ rfl rfl HKB.out (by omega)) ?_
 exact Y.1):q:=Y ⟨x⟩
def Xk0(Y:Bx p→q:=by
 intro Y;refine xaa rfl _ (xdi sc25 _ rfl (ad.add (i*1)) (Sv.v s) rfl HRD.out) ?_
 exact Y.1):q:=Y ⟨x⟩
def Xk1(Y:Bx p→q:=by
 intro Y;refine xaa rfl _ (xbq (b:=false) _ _ rfl _ _ rfl rfl k10) ?_;refine X1z ?_
 exact Y.1):q:=Y ⟨x⟩
def Xk2(Y:Bx p→q:=by
 intro Y;refine X1w ?_;(with_reducible refine(CK.out).mono ?_)
 exact Y.1):q:=Y ⟨x⟩
def Xk3(Y:Bx p→q:=by
 intro Y;have HGN:Hid ((bs++[(⟨3,D32.z,D32.z,dg⟩:Brv)]).flatMap Brv.cells=bs.flatMap Brv.cells++(⟨3,D32.z,D32.z,dg⟩:Brv).cells):=hZ (by simp);revert HGN
 exact Y.1):q:=Y ⟨x⟩
def Xk4(Y:Bx p→q:=by
 intro Y;refine xaa rfl _ (xao (b:=false) _ _ rfl _ _ rfl rfl kz) ?_
 exact Y.1):q:=Y ⟨x⟩
def Xk5(Y:Bx p→q:=by
 intro Y;refine X1w ?_;(with_reducible refine(CR.out).mono ?_)
 exact Y.1):q:=Y ⟨x⟩
def Xk6(Y:Bx p→q:=by
 intro Y;refine bodyPost_ret (xb8 rfl ag23 _ _ g6 23 _ rfl (HL.blk (.head _)) (D32.cl _)) rfl ?_
 exact Y.1):q:=Y ⟨x⟩
def Xk7(Y:Bx p→q:=by
 intro Y;refine xab rfl rfl HL (fun W hW=>xbw sl26 _ _ rfl A m c pn .i64 rfl rfl HPC.out.1) ?_
 exact Y.1):q:=Y ⟨x⟩
def Xk8(Y:Bx p→q:=by
 intro Y;refine xab rfl rfl HL (fun W hW=>xbw sl29 _ _ rfl B m c2 pn .i64 rfl rfl HPC.out.2) ?_
 exact Y.1):q:=Y ⟨x⟩
def Xk9(Y:Bx p→q:=by
 intro Y;refine xab rfl rfl HL (fun W hW=>xbt sl26 _ _ rfl A m c pn .i64 rfl rfl HPN.out) ?_
 exact Y.1):q:=Y ⟨x⟩
def Xka(Y:Bx p→q:=by
 intro Y;refine xab rfl rfl HL (fun W hW=>xbt sl29 _ _ rfl B m c2 pn .i64 rfl rfl HPN.out) ?_
 exact Y.1):q:=Y ⟨x⟩
def Xkb(Y:Bx p→q:=by
 intro Y;refine X7b ?_;(with_reducible refine(xgp _ da db).mono ?_)
 exact Y.1):q:=Y ⟨x⟩
def Xkc(Y:Bx p→q:=by
 intro Y;refine xab rfl rfl HL (fun W hW=>xam underlying26 _ rfl ⟨A,m,c⟩ m rfl rfl) ?_
 exact Y.1):q:=Y ⟨x⟩
def Xkd(Y:Bx p→q:=by
 intro Y;refine xab rfl rfl HL (fun W hW=>xax (b:=true) _ _ rfl _ _ rfl rfl k3) ?_;refine X95 ?_
 exact Y.1):q:=Y ⟨x⟩
def Xke(Y:Bx p→q:=by
 intro Y;refine xab rfl rfl HL (fun W hW=>xa5 ag24 _ rfl (ad.add (i*32)) x.c rfl (hW.rdO HRD.out) (by decide) (D32.cl _)) ?_
 exact Y.1):q:=Y ⟨x⟩
def Xkf(Y:Bx p→q:=by
 intro Y;refine xab rfl rfl HL (fun W hW=>xav ag24 hW _ rfl g5 1 rfl 124 _ _ (.head _) HB.out.1 (D32.cl _)) ?_
 exact Y.1):q:=Y ⟨x⟩
def Xkg(Y:Bx p→q:=by
 intro Y;refine xab rfl rfl HL (fun W hW=>xax (b:=false) _ _ rfl _ _ rfl rfl k3) ?_;refine Xb4 ?_
 exact Y.1):q:=Y ⟨x⟩
def Xkh(Y:Bx p→q:=by
 intro Y;have HL:=HX.drop [(g5,124,b)] (by simp);revert HL
 exact Y.1):q:=Y ⟨x⟩
def Xki(Y:Bx p→q:=by
 intro Y;refine Xkh ?_;intro HL;refine X3x ?_;revert HL
 exact Y.1):q:=Y ⟨x⟩
def Xkj(Y:Bx p→q:=by
 intro Y;refine Xkh ?_;intro HL;refine X3y ?_;intro K hK;revert HL K hK
 exact Y.1):q:=Y ⟨x⟩
def Xkk(Y:Bx p→q:=by
 intro Y;have hrk:Rd _ (aS g49) k.c:=Rd.of_blk0 (es:=[]) (by simpa using HX.blk (g:=g49) (t:=24) (cs:=k.c) (by simp));revert hrk
 exact Y.1):q:=Y ⟨x⟩
def Xkl(Y:Bx p→q:=by
 intro Y;have hrk:Rd _ (aS g58) kv.c:=Rd.of_blk0 (es:=[]) (by simpa using HX.blk (g:=g58) (t:=23) (cs:=kv.c) (by simp));revert hrk
 exact Y.1):q:=Y ⟨x⟩
def Xkm(Y:Bx p→q:=by
 intro Y;have HL:=HX.drop [] (List.nil_sublist _);revert HL
 exact Y.1):q:=Y ⟨x⟩
def Xkn(Y:Bx p→q:=by
 intro Y;obtain⟨ad,hA,hrd0⟩:=hB.at_ 0 (by simp);have HR:Hid (Rd v (some (ad.add (0*97))) (b).cells):=hZ hrd0;revert ad hA hrd0 HR
 exact Y.1):q:=Y ⟨x⟩
def Xko(Y:Bx p→q:=by
 intro Y;refine rB (Loc.P HL) [] [5,6] [0,1,2,3,4,5,6,7] 0 ?_
 exact Y.1):q:=Y ⟨x⟩
def Xkp(Y:Bx p→q:=by
 intro Y;refine xab rfl rfl HL (fun W hW=>xaz sl42 (.tmp 17) _ rfl ad n cc 0 .i64 HSV.out rfl hN) ?_
 exact Y.1):q:=Y ⟨x⟩
def Xkq(Y:Bx p→q:=by
 intro Y;refine xab rfl rfl HL (fun W hW=>xa5 xl0 _ rfl (ad.add (0*97)) (b).cells rfl (HR.out.below (HV.out.trans (hW.below.mono HV.out.size))) (by decide) (Brv.len _)) ?_
 exact Y.1):q:=Y ⟨x⟩
def Xkr(Y:Bx p→q:=by
 intro Y;refine xab rfl rfl HL (fun W hW=>xbt sl42 (.tmp 20) _ rfl (some ad) n cc 1 .i64 HSV.out rfl hN) ?_
 exact Y.1):q:=Y ⟨x⟩
def Xks(Y:Bx p→q:=by
 intro Y;refine Xh ?_;intro K hK;refine xcj zr124 rfl HL ?_;revert K hK
 exact Y.1):q:=Y ⟨x⟩
def Xkt(Y:Bx p→q:=by
 intro Y;have HL:Loc w0 (Old w0) [(g8,23,D32.z.c)] w:=HX.drop _ (sB _ _);revert HL
 exact Y.1):q:=Y ⟨x⟩
def Xku(Y:Bx p→q:=by
 intro Y;refine xe4 xl0 _ _ rfl HX 0 g10 124 _ _ rfl rfl rfl (Brv.len _) (Brv.len _) (Brv.one _) ?_
 exact Y.1):q:=Y ⟨x⟩
def Xkv(Y:Bx p→q:=by
 intro Y;refine bodyPost_ret (xay rfl ag23 _ _ g8 23 _ rfl (HL.blk (.tail _ (.head _))) (D32.cl _)) rfl ?_
 exact Y.1):q:=Y ⟨x⟩
def Xkw(Y:Bx p→q:=by
 intro Y;refine Xfk ?_;refine X1a ?_
 exact Y.1):q:=Y ⟨x⟩
def Xkx(Y:Bx p→q:=by
 intro Y;refine xad cf141 rfl _ rfl ?_;simp only[qk,ql,Act.eval,qa,qb,qc,qd,qe]
 exact Y.1):q:=Y ⟨x⟩
def Xky(Y:Bx p→q:=by
 intro Y;have HL:Loc w0 (Old w0) [(g10,124,b2),(g8,23,D32.z.c)] w:=HX.drop _ (sB _ _);revert HL
 exact Y.1):q:=Y ⟨x⟩
def Xkz(Y:Bx p→q:=by
 intro Y;have HL:Loc w0 (Old w0) [(g15,23,da.c),(g10,124,b2),(g8,23,D32.z.c)] w:=HX.drop _ (sB _ _);revert HL
 exact Y.1):q:=Y ⟨x⟩
def Xl0(Y:Bx p→q:=by
 intro Y;refine xaa rfl _ (xav ag23 HL _ rfl g15 0 rfl 23 _ _ (.tail _ (.head _)) (D32.take_ _) (D32.cl _)) ?_
 exact Y.1):q:=Y ⟨x⟩
def Xl1(Y:Bx p→q:=by
 intro Y;refine xaa rfl _ (xav ag23 HL _ rfl g16 0 rfl 23 _ _ (.head _) (D32.take_ _) (D32.cl _)) ?_
 exact Y.1):q:=Y ⟨x⟩
def Xl2(Y:Bx p→q:=by
 intro Y;refine X15 ?_;refine xbo ag23 rfl _ _ rfl HL 3 g8 23 _ _ rfl rfl rfl (D32.cl _) (D32.cl _) (D32.c1 _) ?_
 exact Y.1):q:=Y ⟨x⟩
def Xl3(Y:Bx p→q:=by
 intro Y;refine bodyPost_ret (xay rfl ag23 _ _ g8 23 _ rfl (HL.blk (.tail _ (.tail _ (.tail _ (.head _))))) (D32.cl _)) rfl ?_
 exact Y.1):q:=Y ⟨x⟩
def Xl4(Y:Bx p→q:=by
 intro Y;refine X12 ?_;refine xaa rfl _ (xam underlying50 _ rfl vv m rfl HVN.out) ?_
 exact Y.1):q:=Y ⟨x⟩
def Xl5(Y:Bx p→q:=by
 intro Y;refine X19 ?_;refine xaa rfl _ (xam underlying50 _ rfl ⟨Av,nv,cv⟩ nv rfl rfl) ?_
 exact Y.1):q:=Y ⟨x⟩
def Xl6(Y:Bx p→q:=by
 intro Y;refine xac rfl _ (xa9 (b:=false) _ _ rfl _ _ rfl rfl rfl) ?_
 exact Y.1):q:=Y ⟨x⟩
def Xl7(Y:Bx p→q:=by
 intro Y;refine xaa rfl _ (xam underlying71 _ rfl ⟨At,nt,ct⟩ nt rfl rfl) ?_
 exact Y.1):q:=Y ⟨x⟩
def Xl8(Y:Bx p→q:=by
 intro Y;refine xbj (xav ag61 HX _ rfl gx (bi*33) rfl 61 _ _ (.head _) HPB.out (Par.len _)) ?_;refine X3x ?_
 exact Y.1):q:=Y ⟨x⟩
def Xl9(Y:Bx p→q:=by
 intro Y;refine xbj (xav ag61 HX _ rfl gx (ai*33) rfl 61 _ _ (.head _) HPA.out (Par.len _)) ?_;refine X3x ?_
 exact Y.1):q:=Y ⟨x⟩
def Xla(Y:Bx p→q:=by
 intro Y;refine xab rfl rfl HL (fun W hW=>xap sl55 (.tmp 141) _ rfl gx m cap ai .i64 HS19.out rfl hal) ?_
 exact Y.1):q:=Y ⟨x⟩
def Xlb(Y:Bx p→q:=by
 intro Y;refine xfg ag61 _ _ rfl HX 0 gx (ai*33) 61 _ xb.cells _ rfl rfl rfl (Par.len _) HCL.out.1 (Par.one _) HQ1.out ?_
 exact Y.1):q:=Y ⟨x⟩
def Xlc(Y:Bx p→q:=by
 intro Y;refine xfg ag61 _ _ rfl HX 0 gx (bi*33) 61 _ xa.cells _ rfl rfl rfl (Par.len _) HCL.out.2 (Par.one _) HQ2.out ?_
 exact Y.1):q:=Y ⟨x⟩
end Go.Proofs.YtkjjdgnkelchfaaGreat
