import Derived.Test.YtkjjdgnkelchfaaGreatRows
import Derived.JoinedOf
import Derived.KernelRfl
import Derived.WalkKit
import Derived.OwnWalk
import Derived.Below
import Derived.Laws.CopyOwn
import Derived.Laws.BytesString
import Derived.Laws.OwnMore
import Derived.Lib.Hide
import Derived.Deep.Draws
import Derived.ProofKit
import Derived.OpenShut
import Derived.SizedLaws
import Derived.Test.YtkjjdgnkelchfaaGreatProg
import Derived.OrdersHeld
import Derived.Outline
import Derived.LoopTactic
import Derived.IntWalk
import Derived.Laws.BitsAllLaws
import Derived.Lib.Bytealg
import Derived.Deep.MidRow
import Derived.Laws.Cover3
import Derived.Laws.ResultCell
import Derived.Lib.Strings
import Derived.Lib.Slices
import Derived.Lib.Small
import Derived.Lib.Walk
import Derived.Lib.BitFns
import Derived.Stop.BytesEq
import Derived.Deep.Cut
import Derived.Deep.CutRange
import Derived.Lib.QuoteBits
import Derived.Deep.AppendLies
import Derived.Great.BuildSlice
import Derived.Great.FillDense
import Derived.Deep.Matrix
import Derived.LoopN
import Derived.WideMake
import Derived.StringKeys
import Derived.DeepKeys4
import Derived.WalkSpells
import Derived.Defers
import Derived.Recover
import Derived.Deep.Slices
import Derived.ChangeArms
import Derived.Laws.StructEq
import Derived.WalkMore
import Derived.Lib.SlBytesConst
import Derived.BigFrame
import Derived.ChangeOld
import Derived.ShutString
set_option linter.unusedSimpArgs false
set_option linter.unusedVariables false
set_option maxRecDepth 100000
set_option maxHeartbeats 16000000
namespace Go.Proofs.YtkjjdgnkelchfaaGreat
open Go Go.RowKit Go.Proofs.Tryz
theorem qa{α:Type _}{xs:Array α}{i:Nat}{d:α}:xs.getD i d=xs[i]?.getD d:=Array.getD_eq_getD_getElem?
theorem qb{α:Type _}{xs:List α}{i:Nat}:xs.toArray[i]? = xs[i]? := List.getElem?_toArray
theorem qc{α:Type _}{a:α}{i:Nat}{l:List α}:(a::l)[i+1]? = l[i]? := List.getElem?_cons_succ
theorem qd{α:Type _}{a:α}{l:List α}:(a::l)[0]? = some a:=List.getElem?_cons_zero
theorem qe{α:Type _}{a b:α}:(some a).getD b=a:=Option.getD_some
theorem qf{α:Type _}(l:List α)(i:Nat)(a:α):l.toArray.setIfInBounds i a=(l.set i a).toArray:=List.setIfInBounds_toArray l i a
theorem qg{α:Type _}{x:α}{xs:List α}{a:α}:(x::xs).set 0 a=a::xs:=List.set_cons_zero
theorem qh{α:Type _}{x:α}{xs:List α}{i:Nat}{a:α}:(x::xs).set (i+1) a=x::xs.set i a:=List.set_cons_succ
theorem qi{α:Type _}{x:α}{xs:List α}{d:α}:(x::xs).getD 0 d=x:=List.getD_cons_zero
theorem qj{α:Type _}{x:α}{xs:List α}{n:Nat}{d:α}:(x::xs).getD (n+1) d=xs.getD n d:=List.getD_cons_succ
theorem qk{α:Type _}{β:Type _}{f:α→β}{a:α}{l:List α}:List.map f (a::l)=f a::List.map f l:=List.map_cons
theorem ql{α:Type _}{β:Type _}{f:α→β}:List.map f [] = []:=List.map_nil
theorem qm{α:Type _}{a:α}{xs ys:List α}:a::xs++ys=a::(xs++ys):=List.cons_append
theorem qn{α:Type _}(xs:List α) : []++xs=xs:=List.nil_append xs
theorem qo{α:Type _}(xs ys zs:List α):xs++ys++zs=xs++(ys++zs):=List.append_assoc xs ys zs
theorem qp{α:Type _}{xs ys:List α}:(xs++ys).length=xs.length+ys.length:=List.length_append
theorem qr{α:Type _}{a:α}{xs:List α}:(a::xs).length=xs.length+1:=List.length_cons
theorem qs{α:Type _}:([]:List α).length=0:=List.length_nil
theorem qt{α:Type _}{x:α}{l:List α} : [x]++l=x::l:=List.singleton_append
theorem qu{α:Type _}(xs:List α):xs++[]=xs:=List.append_nil xs
abbrev BL:=List (Nat×Nat×List Value)
abbrev LU:=List UInt8
abbrev pG(g:Nat):Value:=.pointer (some ⟨g,0,none⟩)
abbrev iV(x:Int):Value:=.int .i64 x
abbrev aS(g:Nat):Option Addr:=some ⟨g,0,none⟩
abbrev Bw(w v:World):Prop:=Below w.heap.size w v
abbrev oB(w:World)(x:Value):Ending→World→Prop:=fun e v=>e=.returned x∧Below w.heap.size w v
theorem eW(w:World):∃ u,u=w:=⟨w,rfl⟩
theorem hZ{p:Prop}(h:p):RowKit.Hid p:=Lib.hid h
theorem sA{α:Type _}(a b:List α):List.Sublist b (a++b):=List.sublist_append_right a b
theorem sB{α:Type _}(a:α)(l:List α):List.Sublist l (a::l):=List.sublist_cons_self a l
theorem nB{α:Type _}[BEq α][LawfulBEq α]{a b:α}(h:a≠b):(a==b)=false:=beq_eq_false_iff_ne.2 h
structure Bx (p:Prop):Prop where
 a:p
abbrev J(p q:Prop):=Bx p→q
theorem Jx{p q:Prop}(x:p)(Y:J p q):q:=Y ⟨x⟩
variable {p q:Prop}(x:p)
include x
theorem X1(Y:J p q:=by
 intro Y;refine wpList_plain hgd ?_;intro K hK;revert K hK
 exact Y.1):q:=Jx x Y
theorem X2(Y:J p q:=by
 intro Y;have e:Hid ((Lib.len8 x+9223372036854775808)%18446744073709551616 - 9223372036854775808=(Lib.bitLen x.toNat:Int)):=Lib.len8_int x h0 h1;revert e
 exact Y.1):q:=Jx x Y
theorem X3(Y:J p q:=by
 intro Y;have hB:Below w.heap.size w (w.alloc (.cells (bvs p).toArray 24)):=(Below.refl _ _).alloc (Nat.le_refl _) _;have hb:Blk (w.alloc (.cells (bvs p).toArray 24)) w.heap.size 24 (bvs p):=Blk.new _ _ _;revert hB hb
 exact Y.1):q:=Jx x Y
theorem X4(Y:J p q:=by
 intro Y;simp only[pick,qk,ql,qi,qj]
 exact Y.1):q:=Jx x Y
theorem X5(Y:J p q:=by
 intro Y;refine xab (v:=?_) rfl rfl hS ?_ ?_;rotate_left;(· intro W hW;(try subst hW);go_simp;try with_reducible rfl)
 exact Y.1):q:=Jx x Y
theorem X6(Y:J p q:=by
 intro Y;simp only[Act.put,qf,qg,qh]
 with_reducible exact Y.1):q:=Jx x Y
theorem X7(Y:J p q:=by
 intro Y;refine X5 ?_;simp only[Act.put,qf,qg,qh]
 exact Y.1):q:=Jx x Y
theorem X8(Y:J p q:=by
 intro Y;refine X7 ?_;refine X7 ?_
 exact Y.1):q:=Jx x Y
theorem X9(Y:J p q:=by
 intro Y;refine X6 ?_;refine X7 ?_
 exact Y.1):q:=Jx x Y
theorem Xa(Y:J p q:=by
 intro Y;refine rg_done (by kernel_rfl) ?_
 exact Y.1):q:=Jx x Y
theorem Xb(Y:J p q:=by
 intro Y;refine X6 ?_;refine Xa ?_
 exact Y.1):q:=Jx x Y
theorem Xc(Y:J p q:=by
 intro Y;(try simp only[Exit.inBlock,Exit.then])
 exact Y.1):q:=Jx x Y
theorem Xd(Y:J p q:=by
 intro Y;refine xab rfl rfl hS (fun W hW=>xib _ _ rfl _ _ (((4*k:Nat):Int)) rfl rfl (by omega) (by omega)) ?_
 exact Y.1):q:=Jx x Y
theorem Xe(Y:J p q:=by
 intro Y;refine xab rfl rfl hS (fun W hW=>xcd ia97 _ _ rfl _ _ _ rfl rfl (by omega)) ?_
 exact Y.1):q:=Jx x Y
theorem Xf(Y:J p q:=by
 intro Y;refine xab rfl rfl hS (fun W hW=>xcd ia176 _ _ rfl _ _ _ rfl rfl (by omega)) ?_
 exact Y.1):q:=Jx x Y
theorem Xg(Y:J p q:=by
 intro Y;refine xc0 rfl rfl ?_;intro K hK;revert K hK
 exact Y.1):q:=Jx x Y
theorem Xh(Y:J p q:=by
 intro Y;refine X6 ?_;refine Xg ?_;intro K hK;revert K hK
 exact Y.1):q:=Jx x Y
theorem Xi(Y:J p q:=by
 intro Y;refine hK _ _ (fun h=>by cases h) ?_
 exact Y.1):q:=Jx x Y
theorem Xj(Y:J p q:=by
 intro Y;refine xab (v:=?_) rfl rfl hS2 ?_ ?_;rotate_left;(· intro W hW;(try subst hW);go_simp;try with_reducible rfl)
 exact Y.1):q:=Jx x Y
theorem Xk(Y:J p q:=by
 intro Y;refine X6 ?_;refine Xj ?_
 exact Y.1):q:=Jx x Y
theorem Xl(Y:J p q:=by
 intro Y;refine Xk ?_;simp only[Act.put,qf,qg,qh]
 exact Y.1):q:=Jx x Y
theorem Xm(Y:J p q:=by
 intro Y;refine xab rfl rfl hS2 (fun W hW=>xcd ia176 _ _ rfl _ _ _ rfl rfl (by omega)) ?_
 exact Y.1):q:=Jx x Y
theorem Xn(Y:J p q:=by
 intro Y;refine xab rfl rfl hS2 (fun W hW=>xfe _ _ rfl _ _ rfl rfl) ?_
 exact Y.1):q:=Jx x Y
theorem Xo(Y:J p q:=by
 intro Y;refine xab (v:=?_) rfl rfl hS3 ?_ ?_;rotate_left;(· intro W hW;(try subst hW);go_simp;try with_reducible rfl)
 exact Y.1):q:=Jx x Y
theorem Xp(Y:J p q:=by
 intro Y;refine X6 ?_;refine xab rfl rfl hS3 (fun W hW=>xcd ia96 _ _ rfl _ 1 _ rfl rfl (by decide)) ?_
 exact Y.1):q:=Jx x Y
theorem Xq(Y:J p q:=by
 intro Y;refine X6 ?_;refine xab rfl rfl hS3 (fun W hW=>xcd ia96 _ _ rfl _ 2 _ rfl rfl (by decide)) ?_
 exact Y.1):q:=Jx x Y
theorem Xr(Y:J p q:=by
 intro Y;refine xab (v:=?_) rfl rfl hS4 ?_ ?_;rotate_left;(· intro W hW;(try subst hW);go_simp;try with_reducible rfl)
 exact Y.1):q:=Jx x Y
theorem Xs(Y:J p q:=by
 intro Y;refine xab rfl rfl hS4 (fun W hW=>xcd ia96 _ _ rfl _ _ _ rfl rfl (by omega)) ?_
 exact Y.1):q:=Jx x Y
theorem Xt(Y:J p q:=by
 intro Y;refine wp_region_lit ?_
 exact Y.1):q:=Jx x Y
theorem Xu(Y:J p q:=by
 intro Y;(try simp only[Act.put,qf,qg,qh])
 exact Y.1):q:=Jx x Y
theorem Xv(Y:J p q:=by
 intro Y;refine hK _ _ ?_;(try simp only[Act.put,qf,qg,qh])
 exact Y.1):q:=Jx x Y
theorem Xw(Y:J p q:=by
 intro Y;simp only[Act.put,Act.eval,qa,qb,qc,qd,qe,qf,qg,qh]
 with_reducible exact Y.1):q:=Jx x Y
theorem Xx(Y:J p q:=by
 intro Y;refine xaa rfl _ (xi4 _ rfl) ?_;simp only[Act.put,Act.eval,qa,qb,qc,qd,qe,qf,qg,qh]
 exact Y.1):q:=Jx x Y
theorem Xy(Y:J p q:=by
 intro Y;refine wpList_nil ?_
 exact Y.1):q:=Jx x Y
theorem Xz(Y:J p q:=by
 intro Y;refine Xx ?_;refine Xy ?_
 exact Y.1):q:=Jx x Y
theorem X10(Y:J p q:=by
 intro Y;refine Xu ?_;refine Xz ?_
 exact Y.1):q:=Jx x Y
theorem X11(Y:J p q:=by
 intro Y;refine xaa rfl _ (xic _ rfl) ?_;simp only[Act.put,Act.eval,qa,qb,qc,qd,qe,qf,qg,qh]
 with_reducible exact Y.1):q:=Jx x Y
theorem X12(Y:J p q:=by
 intro Y;refine Xt ?_;refine X11 ?_
 exact Y.1):q:=Jx x Y
theorem X13(Y:J p q:=by
 intro Y;refine xaa rfl _ (xdn _ rfl _ rfl) ?_;simp only[Act.put,qf,qg,qh]
 exact Y.1):q:=Jx x Y
theorem X14(Y:J p q:=by
 intro Y;refine X12 ?_;refine X13 ?_
 exact Y.1):q:=Jx x Y
theorem X15(Y:J p q:=by
 intro Y;refine X6 ?_;refine X11 ?_
 with_reducible exact Y.1):q:=Jx x Y
theorem X16(Y:J p q:=by
 intro Y;refine X6 ?_;refine X13 ?_
 exact Y.1):q:=Jx x Y
theorem X17(Y:J p q:=by
 intro Y;refine Xu ?_;refine Xy ?_
 exact Y.1):q:=Jx x Y
theorem X18(Y:J p q:=by
 intro Y;refine xab rfl rfl hS (fun W hW=>xdn _ rfl _ rfl) ?_
 exact Y.1):q:=Jx x Y
theorem X19(Y:J p q:=by
 intro Y;refine X12 ?_;refine X11 ?_
 exact Y.1):q:=Jx x Y
theorem X1a(Y:J p q:=by
 intro Y;refine X6 ?_;refine Xz ?_
 exact Y.1):q:=Jx x Y
theorem X1b(Y:J p q:=by
 intro Y;refine xab (v:=?_) rfl rfl hS0 ?_ ?_;rotate_left;(· intro W hW;(try subst hW);go_simp;try with_reducible rfl)
 exact Y.1):q:=Jx x Y
theorem X1c(Y:J p q:=by
 intro Y;have hbz:Blk (w.alloc (.cells (bvs (zb 32)).toArray 23)) w.heap.size 23 (bvs (zb 32)):=Blk.new _ _ _;revert hbz
 exact Y.1):q:=Jx x Y
theorem X1d(Y:J p q:=by
 intro Y;have hw0:Below w.heap.size w (w.alloc (.cells (bvs (zb 32)).toArray 23)):=(Below.refl _ _).alloc (Nat.le_refl _) _;revert hw0
 exact Y.1):q:=Jx x Y
theorem X1e(Y:J p q:=by
 intro Y;refine X15 ?_;refine Xy ?_
 exact Y.1):q:=Jx x Y
theorem X1f(Y:J p q:=by
 intro Y;refine Xx ?_;refine Xz ?_
 exact Y.1):q:=Jx x Y
theorem X1g(Y:J p q:=by
 intro Y;refine X6 ?_;refine X1f ?_
 exact Y.1):q:=Jx x Y
theorem X1h(Y:J p q:=by
 intro Y;refine X6 ?_;refine xab rfl rfl hS (fun W hW=>xeq ia25 _ rfl (w.heap.size+1) 0 rfl) ?_
 exact Y.1):q:=Jx x Y
theorem X1i(Y:J p q:=by
 intro Y;have hS1:=xid (w0.drew.alloc (.cells #[.slice (some ⟨w.heap.size,0,none⟩) 32 32,.slice (some ⟨w.heap.size+1,0,none⟩) 32 32] 25));revert hS1
 exact Y.1):q:=Jx x Y
theorem X1j(Y:J p q:=by
 intro Y;refine Xt ?_;refine Xz ?_
 exact Y.1):q:=Jx x Y
theorem X1k(Y:J p q:=by
 intro Y;refine xaa rfl ?_ ?_ ?_;rotate_left;(· go_simp;try with_reducible rfl)
 exact Y.1):q:=Jx x Y
theorem X1l(Y:J p q:=by
 intro Y;refine X1k ?_;refine X15 ?_
 with_reducible exact Y.1):q:=Jx x Y
theorem X1m(Y:J p q:=by
 intro Y;refine xac rfl _ (xic _ rfl) ?_;simp only[Act.put,Act.eval,qa,qb,qc,qd,qe,qf,qg,qh]
 with_reducible exact Y.1):q:=Jx x Y
theorem X1n(Y:J p q:=by
 intro Y;refine X1l ?_;refine X1m ?_
 exact Y.1):q:=Jx x Y
theorem X1o(Y:J p q:=by
 intro Y;refine X12 ?_;refine X1n ?_
 exact Y.1):q:=Jx x Y
theorem X1p(Y:J p q:=by
 intro Y;refine xac rfl _ (xdn _ rfl _ rfl) ?_;simp only[Act.put,qf,qg,qh]
 exact Y.1):q:=Jx x Y
theorem X1q(Y:J p q:=by
 intro Y;refine X6 ?_;refine xac rfl _ (xdr sc3 HL _ rfl _ rfl _ (by with_reducible assumption)) ?_
 exact Y.1):q:=Jx x Y
theorem X1r(Y:J p q:=by
 intro Y;refine xac rfl ?_ ?_ ?_;rotate_left;(· go_simp;try with_reducible rfl)
 exact Y.1):q:=Jx x Y
theorem X1s(Y:J p q:=by
 intro Y;refine X1r ?_;simp only[Act.put,qf,qg,qh]
 exact Y.1):q:=Jx x Y
theorem X1t(Y:J p q:=by
 intro Y;refine X1k ?_;refine X1a ?_
 exact Y.1):q:=Jx x Y
theorem X1u(Y:J p q:=by
 intro Y;refine wpList_plain rfl ?_;intro K hK;revert K hK
 exact Y.1):q:=Jx x Y
theorem X1v(Y:J p q:=by
 intro Y;refine X12 ?_;refine X1u ?_;intro K hK;revert K hK
 exact Y.1):q:=Jx x Y
theorem X1w(Y:J p q:=by
 intro Y;simp only[qk,ql,Act.eval,qa,qb,qc,qd,qe]
 exact Y.1):q:=Jx x Y
theorem X1x(Y:J p q:=by
 intro Y;refine X1v ?_;intro K hK;refine xad cf213 rfl _ rfl ?_;simp only[qk,ql,Act.eval,qa,qb,qc,qd,qe];revert K hK
 exact Y.1):q:=Jx x Y
theorem X1y(Y:J p q:=by
 intro Y;refine⟨_,rfl,hK _ _ ?_⟩
 exact Y.1):q:=Jx x Y
theorem X1z(Y:J p q:=by
 intro Y;refine X6 ?_;refine Xy ?_
 exact Y.1):q:=Jx x Y
theorem X20(Y:J p q:=by
 intro Y;refine X1y ?_;refine X1z ?_
 exact Y.1):q:=Jx x Y
theorem X21(Y:J p q:=by
 intro Y;refine xaa rfl _ (xaf xng _ rfl _ rfl) ?_
 exact Y.1):q:=Jx x Y
theorem X22(Y:J p q:=by
 intro Y;refine xaa rfl _ (xdr sc3 HL _ rfl _ rfl _ (by with_reducible assumption)) ?_
 exact Y.1):q:=Jx x Y
theorem X23(Y:J p q:=by
 intro Y;have C:=fun u=>hZ (xfw (w:=u) (D:=D) (g:=g) (σ:=σ) (vs:=vs) (vf:=vf))
 have HL:=Loc.start w;revert C HL
 exact Y.1):q:=Jx x Y
theorem X24(Y:J p q:=by
 intro Y;refine X15 ?_;refine X1m ?_
 exact Y.1):q:=Jx x Y
theorem X25(Y:J p q:=by
 intro Y;refine X6 ?_;refine xac rfl _ (xdr sc316 HL _ rfl _ rfl _ (by with_reducible assumption)) ?_
 exact Y.1):q:=Jx x Y
theorem X26(Y:J p q:=by
 intro Y;refine X6 ?_;refine X1m ?_
 with_reducible exact Y.1):q:=Jx x Y
theorem X27(Y:J p q:=by
 intro Y;refine X1k ?_;refine X1z ?_
 exact Y.1):q:=Jx x Y
theorem X28(Y:J p q:=by
 intro Y;refine X6 ?_;refine X27 ?_
 exact Y.1):q:=Jx x Y
theorem X29(Y:J p q:=by
 intro Y;refine X1r ?_;refine X28 ?_
 exact Y.1):q:=Jx x Y
theorem X2a(Y:J p q:=by
 intro Y;refine X6 ?_;refine X29 ?_
 exact Y.1):q:=Jx x Y
theorem X2b(Y:J p q:=by
 intro Y;refine no_implicit_lambda% (xlj ?_ ?_);rfl;simp only[Act.put,qf,qg,qh]
 with_reducible exact Y.1):q:=Jx x Y
theorem X2c(Y:J p q:=by
 intro Y;refine no_implicit_lambda% (X2b ?_);refine no_implicit_lambda% (X2b ?_)
 with_reducible exact Y.1):q:=Jx x Y
theorem X2d(Y:J p q:=by
 intro Y;refine no_implicit_lambda% (X2c ?_);refine no_implicit_lambda% (X2c ?_)
 with_reducible exact Y.1):q:=Jx x Y
theorem X2e(Y:J p q:=by
 intro Y;refine no_implicit_lambda% (X2c ?_);refine no_implicit_lambda% (X2b ?_)
 exact Y.1):q:=Jx x Y
theorem X2f(Y:J p q:=by
 intro Y;refine no_implicit_lambda% (X2c ?_);refine X27 ?_
 exact Y.1):q:=Jx x Y
theorem X2g(Y:J p q:=by
 intro Y;refine xah xf4 rfl rfl HL ?_;intro g4 w HL;refine X1a ?_;revert g4 w HL
 exact Y.1):q:=Jx x Y
theorem X2h(Y:J p q:=by
 intro Y;refine xah xf4 rfl rfl HL ?_;intro g6 w HL;revert g6 w HL
 exact Y.1):q:=Jx x Y
theorem X2i(Y:J p q:=by
 intro Y;(with_reducible refine(xfw (HH.out.1.below HL.below)).mono ?_)
 exact Y.1):q:=Jx x Y
theorem X2j(Y:J p q:=by
 intro Y;refine X19 ?_;refine X1u ?_;intro K hK;revert K hK
 exact Y.1):q:=Jx x Y
theorem X2k(Y:J p q:=by
 intro Y;refine xad cf231 rfl _ rfl ?_
 exact Y.1):q:=Jx x Y
theorem X2l(Y:J p q:=by
 intro Y;(with_reducible refine(xl5 (HH.out.1.below HL.below) n i HH.out.2.1 hi HH.out.2.2).mono ?_)
 exact Y.1):q:=Jx x Y
theorem X2m(Y:J p q:=by
 intro Y;refine X1y ?_;refine X1a ?_
 exact Y.1):q:=Jx x Y
theorem X2n(Y:J p q:=by
 intro Y;refine X12 ?_;refine X27 ?_
 exact Y.1):q:=Jx x Y
theorem X2o(Y:J p q:=by
 intro Y;refine X6 ?_;refine xbo xeo rfl _ _ rfl HL 1 _ _ _ _ rfl rfl rfl (Nd.len _) (Nd.len _) (Nd.one _) ?_
 exact Y.1):q:=Jx x Y
theorem X2p(Y:J p q:=by
 intro Y;intro w HL;simp only[qg,qh] at HL;revert w HL
 exact Y.1):q:=Jx x Y
theorem X2q(Y:J p q:=by
 intro Y;refine bodyPost_ret (xay rfl xeo _ _ g4 230 _ rfl (HL.blk (.tail _ (.head _))) (Nd.len _)) rfl ?_
 exact Y.1):q:=Jx x Y
theorem X2r(Y:J p q:=by
 intro Y;refine xaa rfl _ (xbn xeo HL _ rfl _ rfl _ _ (.head _) (Nd.len _)) ?_
 exact Y.1):q:=Jx x Y
theorem X2s(Y:J p q:=by
 intro Y;refine Xt ?_;refine xcs rfl _ rfl HL _ rfl ?_;intro g5 w HL;revert g5 w HL
 exact Y.1):q:=Jx x Y
theorem X2t(Y:J p q:=by
 intro Y;refine X2p ?_;intro w HL;refine X17 ?_;revert w HL
 exact Y.1):q:=Jx x Y
theorem X2u(Y:J p q:=by
 intro Y;have HH:=hZ (And.intro h (And.intro hn (show σ.slots[i].count≠0 by omega)));revert HH
 exact Y.1):q:=Jx x Y
theorem X2v(Y:J p q:=by
 intro Y;refine xaa rfl _ (xer xsl _ rfl _ _ rfl) ?_;simp only[Act.put,qf,qg,qh]
 exact Y.1):q:=Jx x Y
theorem X2w(Y:J p q:=by
 intro Y;refine xaa rfl _ (xai sc3 HL _ rfl _ _ rfl _ _ _ (.head _) HG.out) ?_
 exact Y.1):q:=Jx x Y
theorem X2x(Y:J p q:=by
 intro Y;refine xa3 sc3 rfl _ _ rfl HL 0 G _ 340 _ _ _ rfl rfl rfl rfl hfit HSP.out ?_
 exact Y.1):q:=Jx x Y
theorem X2y(Y:J p q:=by
 intro Y;refine Xt ?_;refine X1f ?_
 exact Y.1):q:=Jx x Y
theorem X2z(Y:J p q:=by
 intro Y;refine X2v ?_;refine xaa rfl _ (xai sc3 HL _ rfl _ _ rfl _ _ _ (.head _) HG2.out) ?_
 exact Y.1):q:=Jx x Y
theorem X30(Y:J p q:=by
 intro Y;refine X19 ?_;refine X13 ?_
 exact Y.1):q:=Jx x Y
theorem X31(Y:J p q:=by
 intro Y;refine xaa rfl _ (xaf fa318_1 _ rfl _ rfl) ?_
 exact Y.1):q:=Jx x Y
theorem X32(Y:J p q:=by
 intro Y;refine X6 ?_;refine xaa rfl _ (xai sc71 HL _ rfl _ _ rfl _ _ _ (.tail _ (.head _)) (rfl)) ?_
 exact Y.1):q:=Jx x Y
theorem X33(Y:J p q:=by
 intro Y;refine X2p ?_;intro w HL;(try simp only[Act.eval,qa,qb,qc,qd,qe] at HL);(try simp only[Act.put,qf,qg,qh]);revert w HL
 exact Y.1):q:=Jx x Y
theorem X34(Y:J p q:=by
 intro Y;refine X33 ?_;intro w HL;refine Xy ?_;revert w HL
 exact Y.1):q:=Jx x Y
theorem X35(Y:J p q:=by
 intro Y;refine X6 ?_;refine xaa rfl _ (xai sc3 HL _ rfl _ _ rfl _ _ _ (.tail _ (.head _)) (rfl)) ?_
 exact Y.1):q:=Jx x Y
theorem X36(Y:J p q:=by
 intro Y;refine X6 ?_;refine xa3 sc3 rfl _ _ rfl HL 1 _ _ _ _ _ _ rfl rfl rfl rfl (by simp) (rfl) ?_
 exact Y.1):q:=Jx x Y
theorem X37(Y:J p q:=by
 intro Y;have h:=xbl ([]:List Value) [Value.pointer none] ([]:List Value) [x0] (by first | rfl | (simp only[D32.cl,Brv.len,Cla.len,Clm.len,Nd.len,Nod.len,Par.len,Plc.len,Prv.len,Sai.len,Say.len,Slo.len,Spv.len,Str.len,qr,qs]));revert h
 exact Y.1):q:=Jx x Y
theorem X38(Y:J p q:=by
 intro Y;refine xcs rfl _ rfl HL _ rfl ?_;intro g3 w HL;revert g3 w HL
 exact Y.1):q:=Jx x Y
theorem X39(Y:J p q:=by
 intro Y;refine Xt ?_;refine X38 ?_;intro g3 w HL;revert g3 w HL
 exact Y.1):q:=Jx x Y
theorem X3a(Y:J p q:=by
 intro Y;refine X4 ?_;replace HL:=HL.drew;revert HL
 exact Y.1):q:=Jx x Y
theorem X3b(Y:J p q:=by
 intro Y;refine xab rfl rfl HL (fun W hW=>xic _ rfl) ?_;simp only[Act.put,Act.eval,qa,qb,qc,qd,qe,qf,qg,qh]
 exact Y.1):q:=Jx x Y
theorem X3c(Y:J p q:=by
 intro Y;refine X3a ?_;intro HL;refine X3b ?_;revert HL
 exact Y.1):q:=Jx x Y
theorem X3d(Y:J p q:=by
 intro Y;refine xab rfl rfl HL (fun W hW=>xdn _ rfl _ rfl) ?_;simp only[Act.put,qf,qg,qh]
 exact Y.1):q:=Jx x Y
theorem X3e(Y:J p q:=by
 intro Y;refine X3c ?_;intro HL;refine X3d ?_;revert HL
 exact Y.1):q:=Jx x Y
theorem X3f(Y:J p q:=by
 intro Y;refine xab rfl rfl HL (fun W hW=>xai sc3 hW _ rfl _ _ rfl _ _ _ (.tail _ (.tail _ (.head _))) (rfl)) ?_
 exact Y.1):q:=Jx x Y
theorem X3g(Y:J p q:=by
 intro Y;refine X6 ?_;refine X3b ?_
 exact Y.1):q:=Jx x Y
theorem X3h(Y:J p q:=by
 intro Y;refine X3g ?_;refine X3d ?_
 exact Y.1):q:=Jx x Y
theorem X3i(Y:J p q:=by
 intro Y;refine xab (v:=?_) rfl rfl HL ?_ ?_;rotate_left;(· intro W hW;go_simp;try with_reducible rfl)
 exact Y.1):q:=Jx x Y
theorem X3j(Y:J p q:=by
 intro Y;refine X6 ?_;refine X3i ?_
 exact Y.1):q:=Jx x Y
theorem X3k(Y:J p q:=by
 intro Y;refine X3j ?_;refine Xb ?_
 exact Y.1):q:=Jx x Y
theorem X3l(Y:J p q:=by
 intro Y;refine xaa rfl _ (xa6 _ _ rfl _ _ _ rfl rfl HU.out (by omega)) ?_;refine X16 ?_
 exact Y.1):q:=Jx x Y
theorem X3m(Y:J p q:=by
 intro Y;refine xaa rfl _ (xai sc71 HL _ rfl _ _ rfl _ _ _ (.tail _ (.tail _ (.head _))) (rfl)) ?_
 exact Y.1):q:=Jx x Y
theorem X3n(Y:J p q:=by
 intro Y;refine xaa rfl _ (xb3 underlying71 _ rfl _ _ _ rfl) ?_
 exact Y.1):q:=Jx x Y
theorem X3o(Y:J p q:=by
 intro Y;refine X15 ?_;refine xaa rfl _ (xa2 _ _ rfl _ _ _ rfl rfl HF1.out (by omega)) ?_
 exact Y.1):q:=Jx x Y
theorem X3p(Y:J p q:=by
 intro Y;refine xab rfl rfl HL (fun W hW=>xbn xeo hW _ rfl _ rfl _ _ (.head _) (Nd.len _)) ?_
 exact Y.1):q:=Jx x Y
theorem X3q(Y:J p q:=by
 intro Y;refine X6 ?_;refine xab rfl rfl HL (fun W hW=>xbp bs340 _ rfl _ (by exact bd340_33 _)) ?_
 exact Y.1):q:=Jx x Y
theorem X3r(Y:J p q:=by
 intro Y;refine hK _ _ (fun h=>by cases h) ?_
 exact Y.1):q:=Jx x Y
theorem X3s(Y:J p q:=by
 intro Y;refine X12 ?_;refine X1f ?_
 exact Y.1):q:=Jx x Y
theorem X3t(Y:J p q:=by
 intro Y;refine xab rfl rfl HL (fun W hW=>xai sc3 hW _ rfl _ _ rfl _ _ _ (.tail _ (.head _)) (rfl)) ?_
 exact Y.1):q:=Jx x Y
theorem X3u(Y:J p q:=by
 intro Y;refine X3b ?_;refine X3b ?_
 exact Y.1):q:=Jx x Y
theorem X3v(Y:J p q:=by
 intro Y;refine X3a ?_;intro HL;refine X3u ?_;revert HL
 exact Y.1):q:=Jx x Y
theorem X3w(Y:J p q:=by
 intro Y;refine hK _ _ (fun _=>HL) ?_
 exact Y.1):q:=Jx x Y
theorem X3x(Y:J p q:=by
 intro Y;refine X3w ?_;simp only[Act.put,qf,qg,qh]
 exact Y.1):q:=Jx x Y
theorem X3y(Y:J p q:=by
 intro Y;refine X3w ?_;refine Xh ?_;intro K hK;revert K hK
 exact Y.1):q:=Jx x Y
theorem X3z(Y:J p q:=by
 intro Y;refine X1v ?_;intro K hK;refine xad cf132 rfl _ rfl ?_;simp only[qk,ql,Act.eval,qa,qb,qc,qd,qe];revert K hK
 exact Y.1):q:=Jx x Y
theorem X40(Y:J p q:=by
 intro Y;refine X14 ?_;refine xaa rfl _ (xaf xnf _ rfl _ rfl) ?_;simp only[Act.put,qf,qg,qh]
 exact Y.1):q:=Jx x Y
theorem X41(Y:J p q:=by
 intro Y;refine xaa rfl _ (xdr sc252 HL _ rfl _ rfl _ (by with_reducible assumption)) ?_
 exact Y.1):q:=Jx x Y
theorem X42(Y:J p q:=by
 intro Y;refine X15 ?_;refine X1u ?_;intro K hK;revert K hK
 exact Y.1):q:=Jx x Y
theorem X43(Y:J p q:=by
 intro Y;rintro e w ⟨rfl,hb⟩;replace HL:=HL.next hb;revert w hb HL
 exact Y.1):q:=Jx x Y
theorem X44(Y:J p q:=by
 intro Y;refine X43 ?_;intro w hb HL;clear hb;revert w HL
 exact Y.1):q:=Jx x Y
theorem X45(Y:J p q:=by
 intro Y;refine X44 ?_;intro w HL;refine X1y ?_;revert w HL
 exact Y.1):q:=Jx x Y
theorem X46(Y:J p q:=by
 intro Y;refine xaa rfl _ (xhf _ rfl _ _ rfl rfl) ?_
 exact Y.1):q:=Jx x Y
theorem X47(Y:J p q:=by
 intro Y;refine X46 ?_;simp only[Act.put,qf,qg,qh]
 exact Y.1):q:=Jx x Y
theorem X48(Y:J p q:=by
 intro Y;refine X47 ?_;refine X47 ?_
 exact Y.1):q:=Jx x Y
theorem X49(Y:J p q:=by
 intro Y;refine X15 ?_;refine X48 ?_
 exact Y.1):q:=Jx x Y
theorem X4a(Y:J p q:=by
 intro Y;refine X45 ?_;intro w HL;refine X49 ?_;revert w HL
 exact Y.1):q:=Jx x Y
theorem X4b(Y:J p q:=by
 intro Y;refine xbo xeo rfl _ _ rfl HL 0 _ _ _ _ rfl rfl rfl (Nd.len _) (Nd.len _) (Nd.one _) ?_
 exact Y.1):q:=Jx x Y
theorem X4c(Y:J p q:=by
 intro Y;refine X33 ?_;intro w HL;refine Xz ?_;revert w HL
 exact Y.1):q:=Jx x Y
theorem X4d(Y:J p q:=by
 intro Y;refine X6 ?_;refine X4b ?_;refine X4c ?_;intro w HL;revert w HL
 exact Y.1):q:=Jx x Y
theorem X4e(Y:J p q:=by
 intro Y;refine X2h ?_;intro g6 w HL;refine X4d ?_;clear HL;intro w HL;revert g6 w HL
 exact Y.1):q:=Jx x Y
theorem X4f(Y:J p q:=by
 intro Y;refine X4a ?_;intro w HL;refine X4e ?_;clear HL;intro g6 w HL;revert g6 w HL
 exact Y.1):q:=Jx x Y
theorem X4g(Y:J p q:=by
 intro Y;refine xad cf133 rfl _ rfl ?_;simp only[qk,ql,Act.eval,qa,qb,qc,qd,qe]
 exact Y.1):q:=Jx x Y
theorem X4h(Y:J p q:=by
 intro Y;refine X2j ?_;intro K hK;refine X4g ?_;revert K hK
 exact Y.1):q:=Jx x Y
theorem X4i(Y:J p q:=by
 intro Y;(with_reducible refine(xfy (h.below HL.below) z n val ok hG).mono ?_)
 exact Y.1):q:=Jx x Y
theorem X4j(Y:J p q:=by
 intro Y;refine X4a ?_;intro w HL;refine xah xf4 rfl rfl HL ?_;clear HL;intro g5 w HL;refine X4d ?_;clear HL;intro w HL;revert g5 w HL
 exact Y.1):q:=Jx x Y
theorem X4k(Y:J p q:=by
 intro Y;refine Xt ?_;refine xaa rfl _ (xaf fa230_1 _ rfl _ rfl) ?_;simp only[Act.put,qf,qg,qh]
 exact Y.1):q:=Jx x Y
theorem X4l(Y:J p q:=by
 intro Y;refine X4k ?_;refine xaa rfl _ (xai sc30 HL _ rfl _ _ rfl _ _ _ (.head _) (Nd.g_kind _)) ?_
 exact Y.1):q:=Jx x Y
theorem X4m(Y:J p q:=by
 intro Y;refine xaa rfl _ (xaf xsf _ rfl _ rfl) ?_
 exact Y.1):q:=Jx x Y
theorem X4n(Y:J p q:=by
 intro Y;refine X6 ?_;refine xaa rfl _ (xai sc3 HL _ rfl _ _ rfl _ _ _ (.head _) (Nd.g_held _)) ?_
 exact Y.1):q:=Jx x Y
theorem X4o(Y:J p q:=by
 intro Y;refine xab rfl rfl HL (fun W hW=>xi4 _ rfl) ?_;simp only[Act.put,Act.eval,qa,qb,qc,qd,qe,qf,qg,qh]
 exact Y.1):q:=Jx x Y
theorem X4p(Y:J p q:=by
 intro Y;refine X4o ?_;refine Xa ?_
 exact Y.1):q:=Jx x Y
theorem X4q(Y:J p q:=by
 intro Y;refine X4o ?_;refine X4p ?_
 exact Y.1):q:=Jx x Y
theorem X4r(Y:J p q:=by
 intro Y;refine Xt ?_;refine xaa rfl _ (xaf xne _ rfl _ rfl) ?_;simp only[Act.put,qf,qg,qh]
 exact Y.1):q:=Jx x Y
theorem X4s(Y:J p q:=by
 intro Y;refine xaa rfl _ (xav ag24 HL _ rfl _ _ rfl _ _ _ (.head _) (Nd.g_key _) (D32.cl _)) ?_
 exact Y.1):q:=Jx x Y
theorem X4t(Y:J p q:=by
 intro Y;(with_reducible refine(xfy (h.below HL.below) z n val true hG).mono ?_)
 exact Y.1):q:=Jx x Y
theorem X4u(Y:J p q:=by
 intro Y;(with_reducible refine(xe8 (h.below HL.below)).mono ?_)
 exact Y.1):q:=Jx x Y
theorem X4v(Y:J p q:=by
 intro Y;refine xbo ag23 rfl _ _ rfl HL 1 _ _ _ _ rfl rfl rfl (D32.cl _) (D32.cl _) (D32.c1 _) ?_
 exact Y.1):q:=Jx x Y
theorem X4w(Y:J p q:=by
 intro Y;refine xad cf43 rfl _ rfl ?_;simp only[qk,ql,Act.eval,qa,qb,qc,qd,qe]
 exact Y.1):q:=Jx x Y
theorem X4x(Y:J p q:=by
 intro Y;(with_reducible refine(empty_d _).mono ?_)
 exact Y.1):q:=Jx x Y
theorem X4y(Y:J p q:=by
 intro Y;refine X45 ?_;intro w HL;simp only[Act.put,qf,qg,qh];revert w HL
 exact Y.1):q:=Jx x Y
theorem X4z(Y:J p q:=by
 intro Y;refine xbo ag23 rfl _ _ rfl HL 0 _ _ _ _ rfl rfl rfl (D32.cl _) (D32.cl _) (D32.c1 _) ?_
 exact Y.1):q:=Jx x Y
theorem X50(Y:J p q:=by
 intro Y;refine X6 ?_;refine X1u ?_;intro K hK;revert K hK
 exact Y.1):q:=Jx x Y
theorem X51(Y:J p q:=by
 intro Y;refine X6 ?_;refine X1l ?_
 with_reducible exact Y.1):q:=Jx x Y
theorem X52(Y:J p q:=by
 intro Y;refine no_implicit_lambda% (X2e ?_);refine X27 ?_
 exact Y.1):q:=Jx x Y
theorem X53(Y:J p q:=by
 intro Y;refine X6 ?_;refine xac rfl _ (xai sc3 HL _ rfl _ _ rfl _ _ _ (.head _) (Nd.g_depth _)) ?_
 exact Y.1):q:=Jx x Y
theorem X54(Y:J p q:=by
 intro Y;refine X1y ?_;refine X49 ?_
 exact Y.1):q:=Jx x Y
theorem X55(Y:J p q:=by
 intro Y;have hB:Bw w0 w:=HL.below;revert hB
 exact Y.1):q:=Jx x Y
theorem X56(Y:J p q:=by
 intro Y;have hgs:Old w0 gs∧¬ SbS g vs vf gs:=⟨HH.out.blk.lt,HH.out.sbs⟩;revert hgs
 exact Y.1):q:=Jx x Y
theorem X57(Y:J p q:=by
 intro Y;have HX:=HL.less (D':=fun k=>Old w0 k∧¬ SbS g vs vf k) (fun k hk=>hk.1);revert HX
 exact Y.1):q:=Jx x Y
theorem X58(Y:J p q:=by
 intro Y;refine xab rfl rfl HL (fun W hW=>xaf xnf _ rfl _ rfl) ?_
 exact Y.1):q:=Jx x Y
theorem X59(Y:J p q:=by
 intro Y;refine xab rfl rfl HL (fun W hW=>xa8 sc252 hW _ rfl _ rfl _ hgs hcs) ?_
 exact Y.1):q:=Jx x Y
theorem X5a(Y:J p q:=by
 intro Y;refine⟨_,rfl,hK _ _ (fun _=>HL) ?_⟩
 exact Y.1):q:=Jx x Y
theorem X5b(Y:J p q:=by
 intro Y;refine X2j ?_;intro K hK;refine xad cf189 rfl _ rfl ?_;simp only[qk,ql,Act.eval,qa,qb,qc,qd,qe];revert K hK
 exact Y.1):q:=Jx x Y
theorem X5c(Y:J p q:=by
 intro Y;refine xad cf150 rfl _ rfl ?_;simp only[qk,ql,Act.eval,qa,qb,qc,qd,qe]
 exact Y.1):q:=Jx x Y
theorem X5d(Y:J p q:=by
 intro Y;(with_reducible refine((C _).out).mono ?_)
 exact Y.1):q:=Jx x Y
theorem X5e(Y:J p q:=by
 intro Y;refine X5c ?_;refine X5d ?_
 exact Y.1):q:=Jx x Y
theorem X5f(Y:J p q:=by
 intro Y;refine X12 ?_;refine X1l ?_
 with_reducible exact Y.1):q:=Jx x Y
theorem X5g(Y:J p q:=by
 intro Y;refine X12 ?_;refine X1t ?_
 exact Y.1):q:=Jx x Y
theorem X5h(Y:J p q:=by
 intro Y;refine xad cf250 rfl _ rfl ?_;simp only[qk,ql,Act.eval,qa,qb,qc,qd,qe]
 exact Y.1):q:=Jx x Y
theorem X5i(Y:J p q:=by
 intro Y;refine xkk rfl ?_;intro K hK;revert K hK
 exact Y.1):q:=Jx x Y
theorem X5j(Y:J p q:=by
 intro Y;refine X26 ?_;refine X5i ?_;intro K hK;revert K hK
 exact Y.1):q:=Jx x Y
theorem X5k(Y:J p q:=by
 intro Y;refine X1y ?_;simp only[Act.put,qf,qg,qh]
 exact Y.1):q:=Jx x Y
theorem X5l(Y:J p q:=by
 intro Y;(with_reducible refine(xe8 (HH.out.sw.below HL.below)).mono ?_)
 exact Y.1):q:=Jx x Y
theorem X5m(Y:J p q:=by
 intro Y;refine xaa rfl _ (xb3 underlying25 _ rfl _ _ _ rfl) ?_
 exact Y.1):q:=Jx x Y
theorem X5n(Y:J p q:=by
 intro Y;refine xad cf42 rfl _ rfl ?_;simp only[qk,ql,Act.eval,qa,qb,qc,qd,qe]
 exact Y.1):q:=Jx x Y
theorem X5o(Y:J p q:=by
 intro Y;refine xah zr23 rfl rfl HL ?_;intro g8 w HL;revert g8 w HL
 exact Y.1):q:=Jx x Y
theorem X5p(Y:J p q:=by
 intro Y;refine X6 ?_;refine X4z ?_
 exact Y.1):q:=Jx x Y
theorem X5q(Y:J p q:=by
 intro Y;have hSO:∀ k,SbS g vs vf k→Old w0 k:=fun k hk=>HH.out.sb.lt k (HH.out.sb.own k hk)
 revert hSO
 exact Y.1):q:=Jx x Y
theorem X5r(Y:J p q:=by
 intro Y;refine xab rfl rfl HL (fun W hW=>xbn ag24 hW _ rfl _ rfl _ _ (.tail _ (.head _)) (D32.cl _)) ?_
 exact Y.1):q:=Jx x Y
theorem X5s(Y:J p q:=by
 intro Y;refine xab rfl rfl HL (fun W hW=>xbn ag23 hW _ rfl _ rfl _ _ (.head _) (D32.cl _)) ?_
 exact Y.1):q:=Jx x Y
theorem X5t(Y:J p q:=by
 intro Y;refine xad cf41 rfl _ rfl ?_
 exact Y.1):q:=Jx x Y
theorem X5u(Y:J p q:=by
 intro Y;have hB1:Bw w1 w:=((Below.refl _ _).drew).trans hb;revert hB1
 exact Y.1):q:=Jx x Y
theorem X5v(Y:J p q:=by
 intro Y;refine X5a ?_;simp only[Act.put,qf,qg,qh]
 exact Y.1):q:=Jx x Y
theorem X5w(Y:J p q:=by
 intro Y;refine xab rfl rfl HL (fun W hW=>xbp bs228 _ rfl _ (by exact bd228_27 _)) ?_
 exact Y.1):q:=Jx x Y
theorem X5x(Y:J p q:=by
 intro Y;refine xad cf208 rfl _ rfl ?_;simp only[qk,ql,Act.eval,qa,qb,qc,qd,qe]
 exact Y.1):q:=Jx x Y
theorem X5y(Y:J p q:=by
 intro Y;refine xab rfl rfl HL (fun W hW=>xhf _ rfl _ _ rfl rfl) ?_
 exact Y.1):q:=Jx x Y
theorem X5z(Y:J p q:=by
 intro Y;refine X5y ?_;simp only[Act.put,qf,qg,qh]
 exact Y.1):q:=Jx x Y
theorem X60(Y:J p q:=by
 intro Y;refine X5z ?_;refine X5z ?_
 exact Y.1):q:=Jx x Y
theorem X61(Y:J p q:=by
 intro Y;refine X60 ?_;refine X4q ?_
 exact Y.1):q:=Jx x Y
theorem X62(Y:J p q:=by
 intro Y;have hb2:Blk w gs 256 [pG g]:=HL.far hgs HH.out.blk;revert hb2
 exact Y.1):q:=Jx x Y
theorem X63(Y:J p q:=by
 intro Y;have GL:Hid (Got σ left nl σ.slots[i].val true):=hZ (.inl ⟨rfl,i,eL,hi,hnl,rfl,hcl⟩);have HE:=hZ (And.intro eL hnl);revert GL HE
 exact Y.1):q:=Jx x Y
theorem X64(Y:J p q:=by
 intro Y;have GR:Hid (Got σ right nr σ.slots[j].val true):=hZ (.inl ⟨rfl,j,eR,hj,hnr,rfl,hcr⟩);have HR:=hZ (And.intro eR hnr);revert GR HR
 exact Y.1):q:=Jx x Y
theorem X65(Y:J p q:=by
 intro Y;refine xaa rfl _ (xpa bs230 rfl) ?_
 exact Y.1):q:=Jx x Y
theorem X66(Y:J p q:=by
 intro Y;refine xaa rfl _ (xbp bs353 _ rfl _ (by exact bd353_29 _ _ rfl)) ?_
 exact Y.1):q:=Jx x Y
theorem X67(Y:J p q:=by
 intro Y;refine xul sl354 el353 (by decide) rfl _ _ rfl HL _ _ rfl rfl rfl rfl ?_;intro g33 w HL;simp only[Act.eval,qa,qb,qc,qd,qe,qm,qn] at HL;revert g33 w HL
 exact Y.1):q:=Jx x Y
theorem X68(Y:J p q:=by
 intro Y;refine xaa rfl _ (xb3 underlying354 _ rfl _ _ _ rfl) ?_
 exact Y.1):q:=Jx x Y
theorem X69(Y:J p q:=by
 intro Y;refine wp_loop_rounds 3 ?_
 exact Y.1):q:=Jx x Y
theorem X6a(Y:J p q:=by
 intro Y;refine Xt ?_;refine X27 ?_
 exact Y.1):q:=Jx x Y
theorem X6b(Y:J p q:=by
 intro Y;refine xaa rfl _ (xap sl354 _ _ rfl _ _ _ 0 _ rfl rfl (by decide)) ?_
 exact Y.1):q:=Jx x Y
theorem X6c(Y:J p q:=by
 intro Y;refine xaa rfl _ (xav xl3 HL _ rfl _ _ rfl _ _ [iV left,pG g10] (.head _) rfl rfl) ?_
 exact Y.1):q:=Jx x Y
theorem X6d(Y:J p q:=by
 intro Y;refine X6 ?_;refine xah zr353 rfl rfl HL ?_;intro g13 w HL;revert g13 w HL
 exact Y.1):q:=Jx x Y
theorem X6e(Y:J p q:=by
 intro Y;refine xbo xl3 rfl _ _ rfl HL 0 _ _ _ _ rfl rfl rfl (rfl) (rfl) ((by simp[Value.oneCell'])) ?_
 exact Y.1):q:=Jx x Y
theorem X6f(Y:J p q:=by
 intro Y;refine X6 ?_;refine xaa rfl _ (xai sc3 HL _ rfl _ _ rfl _ _ _ (.head _) (rfl)) ?_
 exact Y.1):q:=Jx x Y
theorem X6g(Y:J p q:=by
 intro Y;refine xaa rfl _ (xaf fa353_0 _ rfl _ rfl) ?_;refine X6f ?_
 exact Y.1):q:=Jx x Y
theorem X6h(Y:J p q:=by
 intro Y;refine X6g ?_;refine X28 ?_
 exact Y.1):q:=Jx x Y
theorem X6i(Y:J p q:=by
 intro Y;(with_reducible refine(xfy (HH.out.sw.below HL.below) _ _ _ true GL.out).mono ?_)
 exact Y.1):q:=Jx x Y
theorem X6j(Y:J p q:=by
 intro Y;refine X4a ?_;intro w HL;refine xah xf4 rfl rfl HL ?_;clear HL;intro g14 w HL;refine X4d ?_;clear HL;intro w HL;revert g14 w HL
 exact Y.1):q:=Jx x Y
theorem X6k(Y:J p q:=by
 intro Y;refine X5f ?_;refine xac rfl _ (xaf xsf _ rfl _ rfl) ?_
 exact Y.1):q:=Jx x Y
theorem X6l(Y:J p q:=by
 intro Y;refine xac rfl _ (xai sc3 HL _ rfl _ _ rfl _ _ _ (.head _) (Nd.g_held _)) ?_;refine X2a ?_
 exact Y.1):q:=Jx x Y
theorem X6m(Y:J p q:=by
 intro Y;refine xaa rfl _ (xaf fa353_1 _ rfl _ rfl) ?_
 exact Y.1):q:=Jx x Y
theorem X6n(Y:J p q:=by
 intro Y;refine xaa rfl _ (xai sc352 HL _ rfl _ _ rfl _ _ _ (.tail _ (.head _)) (rfl)) ?_
 exact Y.1):q:=Jx x Y
theorem X6o(Y:J p q:=by
 intro Y;refine xbo xeo rfl _ _ rfl HL 4 _ _ _ _ rfl rfl rfl (Nd.len _) (Nd.len _) (Nd.one _) ?_
 exact Y.1):q:=Jx x Y
theorem X6p(Y:J p q:=by
 intro Y;refine Xt ?_;refine X1l ?_;refine Xy ?_
 exact Y.1):q:=Jx x Y
theorem X6q(Y:J p q:=by
 intro Y;refine xaa rfl _ (xap sl354 _ _ rfl _ _ _ 1 _ rfl rfl (by decide)) ?_
 exact Y.1):q:=Jx x Y
theorem X6r(Y:J p q:=by
 intro Y;refine X4g ?_;(with_reducible refine(xfy (HH.out.sw.below HL.below) _ _ _ true GR.out).mono ?_)
 exact Y.1):q:=Jx x Y
theorem X6s(Y:J p q:=by
 intro Y;refine X19 ?_;refine X11 ?_
 exact Y.1):q:=Jx x Y
theorem X6t(Y:J p q:=by
 intro Y;refine xaa rfl _ (xbn xeo HL _ rfl _ rfl _ _ (.tail _ (.tail _ (.tail _ (.tail _ (.tail _ (.head _)))))) (Nd.len _)) ?_
 exact Y.1):q:=Jx x Y
theorem X6u(Y:J p q:=by
 intro Y;refine X45 ?_;intro w HL;refine X28 ?_;revert w HL
 exact Y.1):q:=Jx x Y
theorem X6v(Y:J p q:=by
 intro Y;refine xbo ag24 rfl _ _ rfl HL 0 _ _ _ _ rfl rfl rfl (D32.cl _) (D32.cl _) (D32.c1 _) ?_
 exact Y.1):q:=Jx x Y
theorem X6w(Y:J p q:=by
 intro Y;refine X6 ?_;refine X6v ?_
 exact Y.1):q:=Jx x Y
theorem X6x(Y:J p q:=by
 intro Y;refine xaa rfl _ (xbn ag24 HL _ rfl _ rfl _ _ (.head _) (D32.cl _)) ?_
 exact Y.1):q:=Jx x Y
theorem X6y(Y:J p q:=by
 intro Y;refine X6x ?_;refine X42 ?_;intro K hK;revert K hK
 exact Y.1):q:=Jx x Y
theorem X6z(Y:J p q:=by
 intro Y;refine Xt ?_;refine X6y ?_;intro K hK;revert K hK
 exact Y.1):q:=Jx x Y
theorem X70(Y:J p q:=by
 intro Y;refine rB (Loc.P HL) [] [6,9,10,22] [0,1,2,3,4,5,7,8,12,13,14,15,16,17,18,19,20,6,9,10,11,21,22,23,24,25,26,27] 0 ?_
 exact Y.1):q:=Jx x Y
theorem X71(Y:J p q:=by
 intro Y;refine X6 ?_;refine X3u ?_
 exact Y.1):q:=Jx x Y
theorem X72(Y:J p q:=by
 intro Y;refine X71 ?_;refine X3u ?_
 exact Y.1):q:=Jx x Y
theorem X73(Y:J p q:=by
 intro Y;refine xab rfl rfl HL (fun W hW=>xbn ag24 hW _ rfl _ rfl _ _ (.head _) (D32.cl _)) ?_
 exact Y.1):q:=Jx x Y
theorem X74(Y:J p q:=by
 intro Y;refine xab rfl rfl HL (fun W hW=>xaf xse _ rfl _ rfl) ?_
 exact Y.1):q:=Jx x Y
theorem X75(Y:J p q:=by
 intro Y;refine xab rfl rfl HL (fun W hW=>xai sc3 hW _ rfl _ _ rfl _ _ _ (.tail _ (.tail _ (.tail _ (.tail _ (.tail _ (.tail _ (.head _))))))) (Nd.g_size _)) ?_
 exact Y.1):q:=Jx x Y
theorem X76(Y:J p q:=by
 intro Y;refine xab rfl rfl HL (fun W hW=>xa6 _ _ rfl _ _ _ rfl rfl HZ.out (by omega)) ?_
 exact Y.1):q:=Jx x Y
theorem X77(Y:J p q:=by
 intro Y;refine xad cf83 rfl _ rfl ?_;simp only[qk,ql,Act.eval,qa,qb,qc,qd,qe]
 exact Y.1):q:=Jx x Y
theorem X78(Y:J p q:=by
 intro Y;refine X77 ?_;(with_reducible refine(xfi (HSW.out.below (Below.refl _ _).drew) left nl _ GL.out).mono ?_)
 exact Y.1):q:=Jx x Y
theorem X79(Y:J p q:=by
 intro Y;refine X5a ?_;refine Xh ?_;intro K hK;revert K hK
 exact Y.1):q:=Jx x Y
theorem X7a(Y:J p q:=by
 intro Y;refine X77 ?_;(with_reducible refine(xfi (HSW.out.below hB1) right nr _ GR.out).mono ?_)
 exact Y.1):q:=Jx x Y
theorem X7b(Y:J p q:=by
 intro Y;refine xad cf44 rfl _ rfl ?_;simp only[qk,ql,Act.eval,qa,qb,qc,qd,qe]
 exact Y.1):q:=Jx x Y
theorem X7c(Y:J p q:=by
 intro Y;refine xab rfl rfl HL (fun W hW=>xbp bs230 _ rfl _ (by exact bd230_30 _ _ _ _ _ _)) ?_
 exact Y.1):q:=Jx x Y
theorem X7d(Y:J p q:=by
 intro Y;refine X5a ?_;refine X3g ?_
 exact Y.1):q:=Jx x Y
theorem X7e(Y:J p q:=by
 intro Y;refine X7d ?_;refine X61 ?_
 exact Y.1):q:=Jx x Y
theorem X7f(Y:J p q:=by
 intro Y;have hS1:Stp D w0 D' w:=(Stp.of_below hB).trans ((Stp.of_below hB1).trans hst);revert hS1
 exact Y.1):q:=Jx x Y
theorem X7g(Y:J p q:=by
 intro Y;have hP1:StP D' w gs g _ vs' vf':=⟨hb2,hst.old _ HH.out.own,hsb⟩;revert hP1
 exact Y.1):q:=Jx x Y
theorem X7h(Y:J p q:=by
 intro Y;have hS2:=hS1.trans (Stp.of_fr hf2 fun k hk=>hP1.sb.own k hk);revert hS2
 exact Y.1):q:=Jx x Y
theorem X7i(Y:J p q:=by
 intro Y;refine xaa rfl _ (xbn xeo HL _ rfl _ rfl _ _ (.tail _ (.tail _ (.tail _ (.tail _ (.head _))))) (Nd.len _)) ?_
 exact Y.1):q:=Jx x Y
theorem X7j(Y:J p q:=by
 intro Y;refine xaa rfl _ (xav ag24 HL _ rfl _ _ rfl _ _ _ (.tail _ (.tail _ (.tail _ (.tail _ (.tail _ (.head _)))))) (Nd.g_key _) (D32.cl _)) ?_
 exact Y.1):q:=Jx x Y
theorem X7k(Y:J p q:=by
 intro Y;refine xab rfl rfl HL (fun W hW=>xai sc3 hW _ rfl _ _ rfl _ _ _ (.tail _ (.tail _ (.tail _ (.tail _ (.tail _ (.head _)))))) (Nd.g_size _)) ?_
 exact Y.1):q:=Jx x Y
theorem X7l(Y:J p q:=by
 intro Y;refine X54 ?_;refine X1f ?_
 exact Y.1):q:=Jx x Y
theorem X7m(Y:J p q:=by
 intro Y;have C:=fun u=>hZ (xih u key d hd)
 revert C
 exact Y.1):q:=Jx x Y
theorem X7n(Y:J p q:=by
 intro Y;refine xad cf138 rfl _ rfl ?_;simp only[qk,ql,Act.eval,qa,qb,qc,qd,qe]
 exact Y.1):q:=Jx x Y
theorem X7o(Y:J p q:=by
 intro Y;refine X7n ?_;(with_reducible refine(xgd (HH.out.below HL.below) _ _ _ true HGG.out).mono ?_)
 exact Y.1):q:=Jx x Y
theorem X7p(Y:J p q:=by
 intro Y;refine X44 ?_;intro w HL;refine X79 ?_;intro K hK;revert w HL K hK
 exact Y.1):q:=Jx x Y
theorem X7q(Y:J p q:=by
 intro Y;refine X44 ?_;intro w HL;refine X5v ?_;revert w HL
 exact Y.1):q:=Jx x Y
theorem X7r(Y:J p q:=by
 intro Y;refine X19 ?_;refine X1f ?_
 exact Y.1):q:=Jx x Y
theorem X7s(Y:J p q:=by
 intro Y;refine Xx ?_;refine X1f ?_
 exact Y.1):q:=Jx x Y
theorem X7t(Y:J p q:=by
 intro Y;refine xad cf154 rfl _ rfl ?_
 exact Y.1):q:=Jx x Y
theorem X7u(Y:J p q:=by
 intro Y;refine X45 ?_;intro w HL;refine X1a ?_;revert w HL
 exact Y.1):q:=Jx x Y
theorem X7v(Y:J p q:=by
 intro Y;refine X12 ?_;refine Xz ?_
 exact Y.1):q:=Jx x Y
theorem X7w(Y:J p q:=by
 intro Y;refine xad cf136 rfl _ rfl ?_;simp only[qk,ql,Act.eval,qa,qb,qc,qd,qe]
 exact Y.1):q:=Jx x Y
theorem X7x(Y:J p q:=by
 intro Y;refine X2j ?_;intro K hK;refine X7w ?_;revert K hK
 exact Y.1):q:=Jx x Y
theorem X7y(Y:J p q:=by
 intro Y;refine Xt ?_;refine X1t ?_
 exact Y.1):q:=Jx x Y
theorem X7z(Y:J p q:=by
 intro Y;refine xad cf142 rfl _ rfl ?_;simp only[qk,ql,Act.eval,qa,qb,qc,qd,qe]
 exact Y.1):q:=Jx x Y
theorem X80(Y:J p q:=by
 intro Y;refine X1v ?_;intro K hK;refine X7z ?_;revert K hK
 exact Y.1):q:=Jx x Y
theorem X81(Y:J p q:=by
 intro Y;refine X6 ?_;refine X1n ?_
 exact Y.1):q:=Jx x Y
theorem X82(Y:J p q:=by
 intro Y;refine X6 ?_;refine X1t ?_
 exact Y.1):q:=Jx x Y
theorem X83(Y:J p q:=by
 intro Y;refine xaa rfl _ (xa9 (b:=true) _ _ rfl _ _ rfl rfl k1) ?_
 exact Y.1):q:=Jx x Y
theorem X84(Y:J p q:=by
 intro Y;refine X24 ?_;refine X1m ?_
 exact Y.1):q:=Jx x Y
theorem X85(Y:J p q:=by
 intro Y;refine xcs rfl _ rfl HL _ rfl ?_;intro g6 w HL;revert g6 w HL
 exact Y.1):q:=Jx x Y
theorem X86(Y:J p q:=by
 intro Y;have hg6:w0.heap.size≤g6:=Nat.le_of_not_lt (HL.own _ (.tail _ (.head _))).1;revert hg6
 exact Y.1):q:=Jx x Y
theorem X87(Y:J p q:=by
 intro Y;have hg8:w0.heap.size≤g8:=Nat.le_of_not_lt (HL.own _ (.head _)).1;have hg8l:g8<w.heap.size:=(HL.blk (.head _)).lt;revert hg8 hg8l
 exact Y.1):q:=Jx x Y
theorem X88(Y:J p q:=by
 intro Y;have h68:g8≠g6:=(List.pairwise_cons.1 HL.nd).1 _ (.head _);have hg6l:g6<w.heap.size:=(HL.blk (.tail _ (.head _))).lt;revert h68 hg6l
 exact Y.1):q:=Jx x Y
theorem X89(Y:J p q:=by
 intro Y;refine xaa rfl _ (xbn ag24 HL _ rfl _ rfl _ _ (.tail _ (.head _)) (D32.cl _)) ?_
 exact Y.1):q:=Jx x Y
theorem X8a(Y:J p q:=by
 intro Y;refine xad cf152 rfl _ rfl ?_;simp only[qk,ql,Act.eval,qa,qb,qc,qd,qe]
 exact Y.1):q:=Jx x Y
theorem X8b(Y:J p q:=by
 intro Y;(with_reducible refine(xku (HH.out.below HL.below) root key way fin HW.out hl HR.out).mono ?_)
 exact Y.1):q:=Jx x Y
theorem X8c(Y:J p q:=by
 intro Y;have hB1:Bw w0 w:=HL.below.trans (hb.mono HL.below.size);revert hB1
 exact Y.1):q:=Jx x Y
theorem X8d(Y:J p q:=by
 intro Y;refine X54 ?_;refine X47 ?_
 exact Y.1):q:=Jx x Y
theorem X8e(Y:J p q:=by
 intro Y;refine xaa rfl _ (xaf fa246_0 _ rfl _ rfl) ?_;simp only[Act.put,qf,qg,qh]
 exact Y.1):q:=Jx x Y
theorem X8f(Y:J p q:=by
 intro Y;refine xaa rfl _ (xaf xsg _ rfl _ rfl) ?_;simp only[Act.put,qf,qg,qh]
 exact Y.1):q:=Jx x Y
theorem X8g(Y:J p q:=by
 intro Y;refine xaa rfl _ (xai sc3 HL _ rfl _ _ rfl _ _ _ (.head _) (Plc.g_fin _)) ?_
 exact Y.1):q:=Jx x Y
theorem X8h(Y:J p q:=by
 intro Y;(with_reducible refine(xcy (HH.out.below (hB1.trans (HL.belowR _ hB1.size hL0))) _ n val ok HG.out).mono ?_)
 exact Y.1):q:=Jx x Y
theorem X8i(Y:J p q:=by
 intro Y;refine rB (Loc.P HL) [] [5] [0,1,2,3,4,6,5,7,8,9] 0 ?_
 exact Y.1):q:=Jx x Y
theorem X8j(Y:J p q:=by
 intro Y;refine rg_skip rfl rfl HL ?_;(try simp only[Act.put,qf,qg,qh])
 exact Y.1):q:=Jx x Y
theorem X8k(Y:J p q:=by
 intro Y;refine X8j ?_;refine X8j ?_
 exact Y.1):q:=Jx x Y
theorem X8l(Y:J p q:=by
 intro Y;refine X8k ?_;refine X8k ?_
 exact Y.1):q:=Jx x Y
theorem X8m(Y:J p q:=by
 intro Y;refine rg_pass rfl rfl HL ?_;(try simp only[Act.put,qf,qg,qh])
 exact Y.1):q:=Jx x Y
theorem X8n(Y:J p q:=by
 intro Y;refine X8j ?_;refine X3i ?_
 exact Y.1):q:=Jx x Y
theorem X8o(Y:J p q:=by
 intro Y;refine X8m ?_;refine X8n ?_
 exact Y.1):q:=Jx x Y
theorem X8p(Y:J p q:=by
 intro Y;have hb8:Blk w g8 246 (Plc.cells ⟨v,fin,false,false⟩):=HL.blk (.head _);have HX:=HL.drop [(g6,24,key.c)] (.cons _ (.refl _));revert hb8 HX
 exact Y.1):q:=Jx x Y
theorem X8q(Y:J p q:=by
 intro Y;refine rB (Loc.P HL) [] [5,17,19] [0,1,2,3,4,7,8,11,5,6,9,10,12,13,14,15,16,17,18,19] 0 ?_
 exact Y.1):q:=Jx x Y
theorem X8r(Y:J p q:=by
 intro Y;refine xab rfl rfl HL (fun W hW=>xaf xsh _ rfl _ rfl) ?_
 exact Y.1):q:=Jx x Y
theorem X8s(Y:J p q:=by
 intro Y;refine xab rfl rfl HL (fun W hW=>xaf xsi _ rfl _ rfl) ?_
 exact Y.1):q:=Jx x Y
theorem X8t(Y:J p q:=by
 intro Y;have hB2:Bw w0 w:=hB1.trans (HL.belowR _ hB1.size hL0);revert hB2
 exact Y.1):q:=Jx x Y
theorem X8u(Y:J p q:=by
 intro Y;refine xaa rfl _ (xbn ag246 HL _ rfl _ rfl _ _ (.head _) (Plc.len _)) ?_
 exact Y.1):q:=Jx x Y
theorem X8v(Y:J p q:=by
 intro Y;refine xbo ag246 rfl _ _ rfl HL 0 _ _ _ _ rfl rfl rfl (Plc.len _) (Plc.len _) (Plc.one _) ?_
 exact Y.1):q:=Jx x Y
theorem X8w(Y:J p q:=by
 intro Y;refine bodyPost_ret (xb8 rfl ag246 _ _ g8 246 _ rfl (HL.blk (.head _)) (Plc.len _)) rfl ?_
 exact Y.1):q:=Jx x Y
theorem X8x(Y:J p q:=by
 intro Y;refine X3v ?_;intro HL;refine X3b ?_;revert HL
 exact Y.1):q:=Jx x Y
theorem X8y(Y:J p q:=by
 intro Y;refine xab rfl rfl HL (fun W hW=>xaf xsg _ rfl _ rfl) ?_
 exact Y.1):q:=Jx x Y
theorem X8z(Y:J p q:=by
 intro Y;refine xab rfl rfl HL (fun W hW=>xai sc3 hW _ rfl _ _ rfl _ _ _ (.head _) (Plc.g_fin _)) ?_
 exact Y.1):q:=Jx x Y
theorem X90(Y:J p q:=by
 intro Y;refine xad cf148 rfl _ rfl ?_;simp only[qk,ql,Act.eval,qa,qb,qc,qd,qe]
 exact Y.1):q:=Jx x Y
theorem X91(Y:J p q:=by
 intro Y;refine Xh ?_;intro K hK;refine X90 ?_;revert K hK
 exact Y.1):q:=Jx x Y
theorem X92(Y:J p q:=by
 intro Y;(with_reducible refine(xij (HH.out.below (hB1.trans (HL.belowR _ hB1.size hL0))) _ n val ok HG.out).mono ?_)
 exact Y.1):q:=Jx x Y
theorem X93(Y:J p q:=by
 intro Y;refine X3j ?_;simp only[Act.put,qf,qg,qh]
 exact Y.1):q:=Jx x Y
theorem X94(Y:J p q:=by
 intro Y;refine xab rfl rfl HL (fun W hW=>xd1 ab23 _ _ rfl n.key key rfl rfl _ HNE.out) ?_;refine X93 ?_
 exact Y.1):q:=Jx x Y
theorem X95(Y:J p q:=by
 intro Y;refine X71 ?_;refine X3b ?_
 exact Y.1):q:=Jx x Y
theorem X96(Y:J p q:=by
 intro Y;refine xad cf153 rfl _ rfl ?_;simp only[qk,ql,Act.eval,qa,qb,qc,qd,qe]
 exact Y.1):q:=Jx x Y
theorem X97(Y:J p q:=by
 intro Y;have HH:=hZ h;have HI:=hZ hI;revert HH HI
 exact Y.1):q:=Jx x Y
theorem X98(Y:J p q:=by
 intro Y;refine xcs rfl _ rfl HL _ rfl ?_;intro g7 w HL;refine X1a ?_;revert g7 w HL
 exact Y.1):q:=Jx x Y
theorem X99(Y:J p q:=by
 intro Y;refine X6s ?_;refine X11 ?_
 exact Y.1):q:=Jx x Y
theorem X9a(Y:J p q:=by
 intro Y;refine X99 ?_;refine X1u ?_;intro K hK;revert K hK
 exact Y.1):q:=Jx x Y
theorem X9b(Y:J p q:=by
 intro Y;refine X9a ?_;intro K hK;refine xad cf210 rfl _ rfl ?_;simp only[qk,ql,Act.eval,qa,qb,qc,qd,qe];revert K hK
 exact Y.1):q:=Jx x Y
theorem X9c(Y:J p q:=by
 intro Y;(with_reducible refine(HI.out _ (HH.out.below HL.below)).mono ?_)
 exact Y.1):q:=Jx x Y
theorem X9d(Y:J p q:=by
 intro Y;(with_reducible refine(xjs (HH.out.below HL.below).sw).mono ?_)
 exact Y.1):q:=Jx x Y
theorem X9e(Y:J p q:=by
 intro Y;refine xaa rfl _ (xao (b:=false) _ _ rfl _ _ rfl rfl kroom) ?_
 exact Y.1):q:=Jx x Y
theorem X9f(Y:J p q:=by
 intro Y;refine xaa rfl _ (xbq (b:=false) _ _ rfl _ _ rfl rfl klen) ?_
 exact Y.1):q:=Jx x Y
theorem X9g(Y:J p q:=by
 intro Y;refine xad cf143 rfl _ rfl ?_;simp only[qk,ql,Act.eval,qa,qb,qc,qd,qe]
 exact Y.1):q:=Jx x Y
theorem X9h(Y:J p q:=by
 intro Y;refine xad cf144 rfl _ rfl ?_;simp only[qk,ql,Act.eval,qa,qb,qc,qd,qe]
 exact Y.1):q:=Jx x Y
theorem X9i(Y:J p q:=by
 intro Y;(with_reducible refine(fits1 (HH.out.below HL.below).sw ⟨r1,r2⟩ HF.out).mono ?_)
 exact Y.1):q:=Jx x Y
theorem X9j(Y:J p q:=by
 intro Y;refine xaa rfl _ (xaf xsh _ rfl _ rfl) ?_
 exact Y.1):q:=Jx x Y
theorem X9k(Y:J p q:=by
 intro Y;refine xaa rfl _ (xai sc4 HL _ rfl _ _ rfl _ _ _ (.head _) (Plc.g_same _)) ?_;refine X1z ?_
 exact Y.1):q:=Jx x Y
theorem X9l(Y:J p q:=by
 intro Y;have HX:=HL.less (D':=fun k=>Old w0 k∧¬ D k) (fun k hk=>hk.1);revert HX
 exact Y.1):q:=Jx x Y
theorem X9m(Y:J p q:=by
 intro Y;refine xad cf146 rfl _ rfl ?_
 exact Y.1):q:=Jx x Y
theorem X9n(Y:J p q:=by
 intro Y;refine xaa rfl _ (xaf xsi _ rfl _ rfl) ?_
 exact Y.1):q:=Jx x Y
theorem X9o(Y:J p q:=by
 intro Y;refine xaa rfl _ (xai sc4 HL _ rfl _ _ rfl _ _ _ (.head _) (Plc.g_other _)) ?_;refine X1z ?_
 exact Y.1):q:=Jx x Y
theorem X9p(Y:J p q:=by
 intro Y;refine xaa rfl _ (xai sc71 HL _ rfl _ _ rfl _ _ _ (.head _) (Plc.g_above _)) ?_
 exact Y.1):q:=Jx x Y
theorem X9q(Y:J p q:=by
 intro Y;refine wp_loop_rounds 1 ?_
 exact Y.1):q:=Jx x Y
theorem X9r(Y:J p q:=by
 intro Y;refine xad cf129 rfl _ rfl ?_;simp only[qk,ql,Act.eval,qa,qb,qc,qd,qe]
 exact Y.1):q:=Jx x Y
theorem X9s(Y:J p q:=by
 intro Y;refine xad cf149 rfl _ rfl ?_;simp only[qk,ql,Act.eval,qa,qb,qc,qd,qe]
 exact Y.1):q:=Jx x Y
theorem X9t(Y:J p q:=by
 intro Y;refine xad cf130 rfl _ rfl ?_;simp only[qk,ql,Act.eval,qa,qb,qc,qd,qe]
 exact Y.1):q:=Jx x Y
theorem X9u(Y:J p q:=by
 intro Y;refine X2j ?_;intro K hK;refine X9t ?_;revert K hK
 exact Y.1):q:=Jx x Y
theorem X9v(Y:J p q:=by
 intro Y;(with_reducible refine(xjs (HH.out.below HL.below)).mono ?_)
 exact Y.1):q:=Jx x Y
theorem X9w(Y:J p q:=by
 intro Y;refine xaa rfl _ (xao (b:=false) _ _ rfl _ _ rfl rfl k1) ?_
 exact Y.1):q:=Jx x Y
theorem X9x(Y:J p q:=by
 intro Y;refine Xu ?_;refine xaa rfl _ (xbp bs259 _ rfl _ (by exact bd259_35 _ rfl _ rfl)) ?_
 exact Y.1):q:=Jx x Y
theorem X9y(Y:J p q:=by
 intro Y;refine xcs rfl _ rfl HL _ rfl ?_;intro g10 w HL;revert g10 w HL
 exact Y.1):q:=Jx x Y
theorem X9z(Y:J p q:=by
 intro Y;have hB1:=HL.below.trans (hb.mono HL.below.size);have hnew2:∀ k,D k→w0.heap.size≤k:=fun k hk=>Nat.le_trans HL.below.size (hnew k hk)
 revert hB1 hnew2
 exact Y.1):q:=Jx x Y
theorem Xa0(Y:J p q:=by
 intro Y;refine X12 ?_;refine xaa rfl _ (xbp bs163 _ rfl _ (by exact bd163_23 _ rfl)) ?_
 exact Y.1):q:=Jx x Y
theorem Xa1(Y:J p q:=by
 intro Y;refine X15 ?_;refine xaa rfl _ (xbp bs166 _ rfl _ (by exact bd166_24 _ _ rfl)) ?_
 exact Y.1):q:=Jx x Y
theorem Xa2(Y:J p q:=by
 intro Y;refine xaa rfl _ (xbq (b:=false) _ _ rfl _ _ rfl rfl k2) ?_
 exact Y.1):q:=Jx x Y
theorem Xa3(Y:J p q:=by
 intro Y;refine xaa rfl _ (xam underlying71 _ rfl ⟨aS gT,m+1,cap⟩ (m+1) rfl rfl) ?_
 exact Y.1):q:=Jx x Y
theorem Xa4(Y:J p q:=by
 intro Y;refine X40 ?_;refine xaa rfl _ (xa8 sc252 HL _ rfl _ rfl _ HGO.out HGC.out) ?_
 exact Y.1):q:=Jx x Y
theorem Xa5(Y:J p q:=by
 intro Y;have HL2:=(HL.less (D':=fun _=>False) (fun _ f=>f.elim)).redo hf (fun x hx hs=>(HL.own x hx).1 (HD.out _ (hPw.sb.own _ hs)));revert HL2
 exact Y.1):q:=Jx x Y
theorem Xa6(Y:J p q:=by
 intro Y;simp only[List.count_append,List.count_cons,List.count_nil,beq_iff_eq]
 exact Y.1):q:=Jx x Y
theorem Xa7(Y:J p q:=by
 intro Y;refine xaa rfl _ (xhs _ _ rfl nr nl 0 .i64 nr rfl rfl (by decide) rfl) ?_
 exact Y.1):q:=Jx x Y
theorem Xa8(Y:J p q:=by
 intro Y;refine X12 ?_;refine xaa rfl _ (xa9 (b:=true) _ _ rfl _ _ rfl rfl kR) ?_
 exact Y.1):q:=Jx x Y
theorem Xa9(Y:J p q:=by
 intro Y;refine xd9 sl71 el3 rfl _ rfl HL _ rfl rfl ?_;intro g82 w HL;(try simp only[Act.eval,qa,qb,qc,qd,qe] at HL);revert g82 w HL
 exact Y.1):q:=Jx x Y
theorem Xaa(Y:J p q:=by
 intro Y;refine hK _ _ ?_;refine X10 ?_
 exact Y.1):q:=Jx x Y
theorem Xab(Y:J p q:=by
 intro Y;refine xaa rfl _ (xhs _ _ rfl nr nl 1 .i64 nl rfl rfl (by decide) rfl) ?_
 exact Y.1):q:=Jx x Y
theorem Xac(Y:J p q:=by
 intro Y;refine X12 ?_;refine xaa rfl _ (xa9 (b:=true) _ _ rfl _ _ rfl rfl kL) ?_
 exact Y.1):q:=Jx x Y
theorem Xad(Y:J p q:=by
 intro Y;have hPw:StP D2 w gs g (σ1.letGo j) vs1 vf2:=HP3.out.fr HL.fr (fun k hk n=>n (HD2.out k hk));revert hPw
 exact Y.1):q:=Jx x Y
theorem Xae(Y:J p q:=by
 intro Y;refine X12 ?_;refine xaa rfl _ (xa9 (b:=false) _ _ rfl _ _ rfl rfl kL) ?_
 exact Y.1):q:=Jx x Y
theorem Xaf(Y:J p q:=by
 intro Y;refine X12 ?_;refine xaa rfl _ (xa9 (b:=false) _ _ rfl _ _ rfl rfl kR) ?_
 exact Y.1):q:=Jx x Y
theorem Xag(Y:J p q:=by
 intro Y;refine X7w ?_;(with_reducible refine(xcy (HH.out.sw.below HL.below) _ n val ok HG.out).mono ?_)
 exact Y.1):q:=Jx x Y
theorem Xah(Y:J p q:=by
 intro Y;refine xac rfl _ (xdq (b:=true) _ _ rfl _ _ rfl rfl k6) ?_;refine X82 ?_
 exact Y.1):q:=Jx x Y
theorem Xai(Y:J p q:=by
 intro Y;refine X7w ?_;(with_reducible refine(xcy (HH.out.sw.below HL.below) _ _ _ true HK.out).mono ?_)
 exact Y.1):q:=Jx x Y
theorem Xaj(Y:J p q:=by
 intro Y;refine xac rfl _ (xdq (b:=false) _ _ rfl _ _ rfl rfl k6) ?_;refine X82 ?_
 exact Y.1):q:=Jx x Y
theorem Xak(Y:J p q:=by
 intro Y;refine X15 ?_;refine no_implicit_lambda% (X2d ?_)
 with_reducible exact Y.1):q:=Jx x Y
theorem Xal(Y:J p q:=by
 intro Y;refine xaa rfl _ (xao (b:=false) _ _ rfl _ _ rfl rfl k2) ?_
 exact Y.1):q:=Jx x Y
theorem Xam(Y:J p q:=by
 intro Y;have HI:Hid ((i:Int)+1=((i+1:Nat):Int)):=hZ (by omega);revert HI
 exact Y.1):q:=Jx x Y
theorem Xan(Y:J p q:=by
 intro Y;have HSV:Hid (Value.slice A n c=.slice (some ad) n c):=hZ (by rw[hA]);revert HSV
 exact Y.1):q:=Jx x Y
theorem Xao(Y:J p q:=by
 intro Y;refine xaa rfl _ (xb3 underlying220 _ rfl _ _ _ rfl) ?_
 exact Y.1):q:=Jx x Y
theorem Xap(Y:J p q:=by
 intro Y;refine xaa rfl _ (xax _ _ rfl _ _ rfl rfl k3) ?_
 exact Y.1):q:=Jx x Y
theorem Xaq(Y:J p q:=by
 intro Y;refine X84 ?_;refine xac rfl _ (xaz xcq (.tmp 11) _ rfl ad n c i .i64 HSV.out rfl hlt) ?_
 exact Y.1):q:=Jx x Y
theorem Xar(Y:J p q:=by
 intro Y;refine xac rfl _ (xa5 ag24 _ rfl _ ws[i].key.c rfl (HK _ HL.below).out (by omega) (D32.cl _)) ?_
 exact Y.1):q:=Jx x Y
theorem Xas(Y:J p q:=by
 intro Y;refine xaa rfl _ (xa6 _ _ rfl _ _ _ rfl rfl HI.out (by omega)) ?_
 exact Y.1):q:=Jx x Y
theorem Xat(Y:J p q:=by
 intro Y;refine X12 ?_;refine Xas ?_;refine X1a ?_
 exact Y.1):q:=Jx x Y
theorem Xau(Y:J p q:=by
 intro Y;refine xaa rfl _ (xaf xhj _ rfl _ rfl) ?_;simp only[Act.put,qf,qg,qh]
 exact Y.1):q:=Jx x Y
theorem Xav(Y:J p q:=by
 intro Y;refine Xau ?_;refine xaa rfl _ (xav ag24 HL _ rfl _ _ rfl _ _ _ (.head _) (Wrt.g_key _) (D32.cl _)) ?_
 exact Y.1):q:=Jx x Y
theorem Xaw(Y:J p q:=by
 intro Y;refine X1w ?_;(with_reducible refine((CC _).out).mono ?_)
 exact Y.1):q:=Jx x Y
theorem Xax(Y:J p q:=by
 intro Y;refine xad cf14 rfl _ rfl ?_;refine Xaw ?_
 exact Y.1):q:=Jx x Y
theorem Xay(Y:J p q:=by
 intro Y;have HL:Loc w0 (fun _=>False) [] w0:=Loc.start' w0 _ (fun k h=>h.elim);revert HL
 exact Y.1):q:=Jx x Y
theorem Xaz(Y:J p q:=by
 intro Y;have H01:Hid ((0:Int)+1=((1:Nat):Int)):=hZ rfl;revert H01
 exact Y.1):q:=Jx x Y
theorem Xb0(Y:J p q:=by
 intro Y;refine xaa rfl _ (xa6 _ _ rfl _ _ _ rfl rfl H01.out (by omega)) ?_
 exact Y.1):q:=Jx x Y
theorem Xb1(Y:J p q:=by
 intro Y;have HI1:Hid ((i:Int)+1=((i+1:Nat):Int)):=hZ (by omega);revert HI1
 exact Y.1):q:=Jx x Y
theorem Xb2(Y:J p q:=by
 intro Y;refine X19 ?_;refine xaa rfl _ (xax _ _ rfl _ _ rfl rfl k14) ?_;refine X1z ?_
 exact Y.1):q:=Jx x Y
theorem Xb3(Y:J p q:=by
 intro Y;refine rB (Loc.P HL) [] [14] [0,1,2,3,4,5,6,7,8,9,10,11,12,13,14,15,16] 0 ?_
 exact Y.1):q:=Jx x Y
theorem Xb4(Y:J p q:=by
 intro Y;refine X3g ?_;refine X8l ?_
 exact Y.1):q:=Jx x Y
theorem Xb5(Y:J p q:=by
 intro Y;refine xab rfl rfl HL (fun W hW=>xbq (b:=false) _ _ rfl _ _ rfl rfl k2) ?_;refine Xb4 ?_
 exact Y.1):q:=Jx x Y
theorem Xb6(Y:J p q:=by
 intro Y;refine xaa rfl _ (xa6 _ _ rfl _ _ _ rfl rfl HI1.out (by omega)) ?_
 exact Y.1):q:=Jx x Y
theorem Xb7(Y:J p q:=by
 intro Y;refine X12 ?_;refine Xb6 ?_
 exact Y.1):q:=Jx x Y
theorem Xb8(Y:J p q:=by
 intro Y;refine Xb7 ?_;refine X1a ?_
 exact Y.1):q:=Jx x Y
theorem Xb9(Y:J p q:=by
 intro Y;refine xab rfl rfl HL (fun W hW=>xbq (b:=true) _ _ rfl _ _ rfl rfl k2) ?_
 exact Y.1):q:=Jx x Y
theorem Xba(Y:J p q:=by
 intro Y;refine xab rfl rfl HL (fun W hW=>xap xcq _ _ rfl g n c (m+1) .i64 rfl rfl hjn) ?_
 exact Y.1):q:=Jx x Y
theorem Xbb(Y:J p q:=by
 intro Y;refine xab rfl rfl HL (fun W hW=>xav ag222 hW _ rfl g ((m+1)*34) rfl 222 _ x.cells (.head _) Hx (Wrt.len _)) ?_
 exact Y.1):q:=Jx x Y
theorem Xbc(Y:J p q:=by
 intro Y;refine xab rfl rfl HL (fun W hW=>xa2 _ _ rfl _ _ _ rfl rfl HJ1.out (by omega)) ?_
 exact Y.1):q:=Jx x Y
theorem Xbd(Y:J p q:=by
 intro Y;refine X71 ?_;refine Xbc ?_
 exact Y.1):q:=Jx x Y
theorem Xbe(Y:J p q:=by
 intro Y;refine xab rfl rfl HL (fun W hW=>xap xcq _ _ rfl g n c m .i64 rfl rfl (by omega)) ?_
 exact Y.1):q:=Jx x Y
theorem Xbf(Y:J p q:=by
 intro Y;refine xab rfl rfl HL (fun W hW=>xav ag222 hW _ rfl g (m*34) rfl 222 _ y.cells (.head _) Hy (Wrt.len _)) ?_
 exact Y.1):q:=Jx x Y
theorem Xbg(Y:J p q:=by
 intro Y;refine X1w ?_;(with_reducible refine(CB _).out.mono ?_)
 exact Y.1):q:=Jx x Y
theorem Xbh(Y:J p q:=by
 intro Y;refine xab rfl rfl HL (fun W hW=>xax (b:=true) _ _ rfl _ _ rfl rfl k15) ?_;refine X3k ?_
 exact Y.1):q:=Jx x Y
theorem Xbi(Y:J p q:=by
 intro Y;have HL:Loc w0 (fun _=>False) [] w:=⟨⟨hf.os,hf.tape,hf.output,hf.size,fun k hk hn=>absurd not_false hn⟩,fun x h=>by simp at h,List.Pairwise.nil,fun k h=>h.elim⟩;revert HL
 exact Y.1):q:=Jx x Y
theorem Xbj(Y:J p q:=by
 intro Y;refine rB (Loc.P HL) [] [9,13,15,16,17] [0,1,2,3,4,5,6,7,8,10,11,12] 6 ?_;refine X3v ?_;intro HL;revert HL
 exact Y.1):q:=Jx x Y
theorem Xbk(Y:J p q:=by
 intro Y;refine X6 ?_;refine xcz [9,13] (by kernel_rfl) ?_
 exact Y.1):q:=Jx x Y
theorem Xbl(Y:J p q:=by
 intro Y;refine X4 ?_;refine Xg ?_;intro K hK;revert K hK
 exact Y.1):q:=Jx x Y
theorem Xbm(Y:J p q:=by
 intro Y;refine xbj (xbi ag222 _ rfl g ((m+1)*34) 222 _ _ rfl hb Hx (Wrt.len _)) ?_;refine X3x ?_
 exact Y.1):q:=Jx x Y
theorem Xbn(Y:J p q:=by
 intro Y;refine xbe ag222.i _ _ rfl g ((m+1)*34) 222 _ _ rfl rfl hb (Wrt.len _) hjl (Wrt.one _) ?_
 exact Y.1):q:=Jx x Y
theorem Xbo(Y:J p q:=by
 intro Y;have HL2:Loc w0 (fun _=>False) [] _:=⟨⟨hf2.os,hf2.tape,hf2.output,hf2.size,fun k hk hn=>absurd not_false hn⟩,fun x h=>by simp at h,List.Pairwise.nil,fun k h=>h.elim⟩;refine hK _ _ (fun _=>HL2) ?_;simp only[Act.put,qf,qg,qh];revert HL2
 exact Y.1):q:=Jx x Y
theorem Xbp(Y:J p q:=by
 intro Y;refine xaa rfl _ (xa2 _ _ rfl _ _ _ rfl rfl HJ1.out (by omega)) ?_
 exact Y.1):q:=Jx x Y
theorem Xbq(Y:J p q:=by
 intro Y;refine xab rfl rfl HL (fun W hW=>xax (b:=false) _ _ rfl _ _ rfl rfl k15) ?_;refine X3k ?_
 exact Y.1):q:=Jx x Y
theorem Xbr(Y:J p q:=by
 intro Y;refine xaa rfl _ (xa2 _ _ rfl _ _ _ rfl rfl H0.out (by omega)) ?_
 exact Y.1):q:=Jx x Y
theorem Xbs(Y:J p q:=by
 intro Y;refine xaa rfl _ (xgf (b:=true) _ _ rfl _ _ rfl rfl k1) ?_
 exact Y.1):q:=Jx x Y
theorem Xbt(Y:J p q:=by
 intro Y;refine X1w ?_;(with_reducible refine(C.out).mono ?_)
 exact Y.1):q:=Jx x Y
theorem Xbu(Y:J p q:=by
 intro Y;refine bodyPost_ret (results_none rfl _ _ _) rfl ?_
 exact Y.1):q:=Jx x Y
theorem Xbv(Y:J p q:=by
 intro Y;refine X12 ?_;refine Xao ?_
 exact Y.1):q:=Jx x Y
theorem Xbw(Y:J p q:=by
 intro Y;refine xaa rfl _ (xd8 (k':=.u64) underlying3 underlying181 _ rfl .i64 (n:Int) (n:Int) rfl rfl hcv) ?_
 exact Y.1):q:=Jx x Y
theorem Xbx(Y:J p q:=by
 intro Y;refine xad cf135 rfl _ rfl ?_;refine X1w ?_;(with_reducible refine(HB.out).mono ?_)
 exact Y.1):q:=Jx x Y
theorem Xby(Y:J p q:=by
 intro Y;refine X1w ?_;(with_reducible refine((C r).out).mono ?_)
 exact Y.1):q:=Jx x Y
theorem Xbz(Y:J p q:=by
 intro Y;refine xaa rfl _ (xd8 (k':=.u64) underlying3 underlying181 _ rfl .i64 ((0:Nat):Int) 0 rfl rfl hcv) ?_
 exact Y.1):q:=Jx x Y
theorem Xc0(Y:J p q:=by
 intro Y;refine xaa rfl _ (xax _ _ rfl _ _ rfl rfl k4) ?_;refine X1z ?_
 exact Y.1):q:=Jx x Y
theorem Xc1(Y:J p q:=by
 intro Y;refine Xt ?_;refine Xc0 ?_
 exact Y.1):q:=Jx x Y
theorem Xc2(Y:J p q:=by
 intro Y;refine xaa rfl _ (xa5 ag222 _ rfl _ x.cells rfl (HRD _ _ HL).out (by omega) (Wrt.len _)) ?_
 exact Y.1):q:=Jx x Y
theorem Xc3(Y:J p q:=by
 intro Y;refine xbo ag222 rfl _ _ rfl HL 0 _ _ _ _ rfl rfl rfl (Wrt.len _) (Wrt.len _) (Wrt.one _) ?_
 exact Y.1):q:=Jx x Y
theorem Xc4(Y:J p q:=by
 intro Y;have HGO:Hid (x.cells[32]? = some (.bool true)):=hZ (by rw[Wrt.g_gone,hg]);revert HGO
 exact Y.1):q:=Jx x Y
theorem Xc5(Y:J p q:=by
 intro Y;refine Xt ?_;refine xaa rfl _ (xaf fa222_1 _ rfl _ rfl) ?_;simp only[Act.put,qf,qg,qh]
 exact Y.1):q:=Jx x Y
theorem Xc6(Y:J p q:=by
 intro Y;refine xaa rfl _ (xai sc4 HL _ rfl _ _ rfl _ _ (.bool true) (.head _) HGO.out) ?_
 exact Y.1):q:=Jx x Y
theorem Xc7(Y:J p q:=by
 intro Y;have HLK:Hid ((∀ p∈xel (out.map fun q=>q.1.key),p.1≠.agg y.key.c.toArray)→Value.int .i64 (j:Int)=.int .i64 0∧true=false):=hZ (fun h=>absurd rfl (h _ (List.mem_of_getElem? (kvs_some hj))));revert HLK
 exact Y.1):q:=Jx x Y
theorem Xc8(Y:J p q:=by
 intro Y;refine X12 ?_;refine Xav ?_
 exact Y.1):q:=Jx x Y
theorem Xc9(Y:J p q:=by
 intro Y;refine xaa rfl _ (xfj (HMP _ _ HL).out law24 underlying334 (xpo _) (xq6 _) HKL.out (.tmp 20) (.tmp 22) rfl rfl rfl (iV j) true ⟨HLK.out,HLK2.out⟩) ?_
 exact Y.1):q:=Jx x Y
theorem Xca(Y:J p q:=by
 intro Y;refine X49 ?_;refine X1f ?_
 exact Y.1):q:=Jx x Y
theorem Xcb(Y:J p q:=by
 intro Y;refine xaa rfl _ (xbn ag222 HL _ rfl _ rfl _ _ (.head _) (Wrt.len _)) ?_
 exact Y.1):q:=Jx x Y
theorem Xcc(Y:J p q:=by
 intro Y;refine X6 ?_;refine xaa rfl _ (xap xcq _ _ rfl gG out.length cap j .i64 rfl rfl hjo) ?_
 exact Y.1):q:=Jx x Y
theorem Xcd(Y:J p q:=by
 intro Y;have hB2:Bw w0 w:=HB.out.trans (HL.belowR _ HB.out.size (fun u hu=>(HGN.out u (by simpa using hu)).1));revert hB2
 exact Y.1):q:=Jx x Y
theorem Xce(Y:J p q:=by
 intro Y;refine Xt ?_;refine Xas ?_;refine X1e ?_
 exact Y.1):q:=Jx x Y
theorem Xcf(Y:J p q:=by
 intro Y;have HLK:Hid ((∀ p∈xel (out.map fun q=>q.1.key),p.1≠.agg y.key.c.toArray)→Value.int .i64 0=.int .i64 0∧false=false):=hZ (fun _=>⟨rfl,rfl⟩);revert HLK
 exact Y.1):q:=Jx x Y
theorem Xcg(Y:J p q:=by
 intro Y;have HLK2:Hid (∀ (j':Nat)(u:Value),(xel (out.map fun q=>q.1.key))[j']? = some (.agg y.key.c.toArray,u)→Value.int .i64 0=u∧false=true):=hZ (fun j' u h=>absurd (List.mem_of_getElem? (xq7 h).1) hin);revert HLK2
 exact Y.1):q:=Jx x Y
theorem Xch(Y:J p q:=by
 intro Y;refine xaa rfl _ (xfj (HMP _ _ HL).out law24 underlying334 (xpo _) (xq6 _) HKL.out (.tmp 20) (.tmp 22) rfl rfl rfl (iV 0) false ⟨HLK.out,HLK2.out⟩) ?_
 exact Y.1):q:=Jx x Y
theorem Xci(Y:J p q:=by
 intro Y;refine X15 ?_;refine xaa rfl _ (xam underlying220 _ rfl sv out.length rfl HSL.out) ?_
 exact Y.1):q:=Jx x Y
theorem Xcj(Y:J p q:=by
 intro Y;refine xl9 (key:=.agg y.key.c.toArray) (val:=iV (out.length:Int)) (HMP _ _ HL).out law24 underlying334 (xq6 _) HKL.out (.tmp 31) (.tmp 33) (.tmp 35) rfl rfl rfl rfl (kvs_no HNO.out) ?_
 exact Y.1):q:=Jx x Y
theorem Xck(Y:J p q:=by
 intro Y;refine X17 ?_;have HDM:Hid (Rest w ((g6,222,y.cells)::(G++[])) gm):=hZ ⟨HMN.out.lt,fun u hu e=>HNE.out u hu e⟩;revert HDM
 exact Y.1):q:=Jx x Y
theorem Xcl(Y:J p q:=by
 intro Y;have hMW:=HMN.out.loc HL HDM.out;have hGo:∀ u∈G',¬ Rest w3 ((g6,222,y.cells)::(G++[])) u.1:=fun u hu=>(hLd.own u (by simp[hu])).1
 revert hMW hGo
 exact Y.1):q:=Jx x Y
theorem Xcm(Y:J p q:=by
 intro Y;have HGO:Hid (x.cells[32]? = some (.bool false)):=hZ (by rw[Wrt.g_gone,hg]);revert HGO
 exact Y.1):q:=Jx x Y
theorem Xcn(Y:J p q:=by
 intro Y;refine xaa rfl _ (xai sc4 HL _ rfl _ _ rfl _ _ (.bool false) (.head _) HGO.out) ?_
 exact Y.1):q:=Jx x Y
theorem Xco(Y:J p q:=by
 intro Y;refine X1w ?_;(with_reducible refine(CS.out).mono ?_)
 exact Y.1):q:=Jx x Y
theorem Xcp(Y:J p q:=by
 intro Y;refine xaa rfl _ (xa5 ag61 _ rfl _ x.cells rfl (HRD _ _ HL).out (by omega) (Par.len _)) ?_
 exact Y.1):q:=Jx x Y
theorem Xcq(Y:J p q:=by
 intro Y;refine xbo ag61 rfl _ _ rfl HL 0 _ _ _ _ rfl rfl rfl (Par.len _) (Par.len _) (Par.one _) ?_
 exact Y.1):q:=Jx x Y
theorem Xcr(Y:J p q:=by
 intro Y;refine xaa rfl _ (xaf fa61_0 _ rfl _ rfl) ?_
 exact Y.1):q:=Jx x Y
theorem Xcs(Y:J p q:=by
 intro Y;refine xaa rfl _ (xav ag24 HL _ rfl _ _ rfl _ _ _ (.head _) (Par.g_key _) (D32.cl _)) ?_
 exact Y.1):q:=Jx x Y
theorem Xct(Y:J p q:=by
 intro Y;refine xaa rfl _ (xaf fa61_1 _ rfl _ rfl) ?_
 exact Y.1):q:=Jx x Y
theorem Xcu(Y:J p q:=by
 intro Y;refine xaa rfl _ (xai sc25 HL _ rfl _ _ rfl _ _ _ (.head _) (Par.g_val _)) ?_
 exact Y.1):q:=Jx x Y
theorem Xcv(Y:J p q:=by
 intro Y;refine xaa rfl _ (xbp bs222 _ rfl _ (by exact bd222_02 x.key x.val)) ?_
 exact Y.1):q:=Jx x Y
theorem Xcw(Y:J p q:=by
 intro Y;refine Xaa ?_;have HLd:=HL.drop (G'++[]) (sA [_,_] _);revert HLd
 exact Y.1):q:=Jx x Y
theorem Xcx(Y:J p q:=by
 intro Y;refine X3x ?_;refine X4p ?_
 exact Y.1):q:=Jx x Y
theorem Xcy(Y:J p q:=by
 intro Y;refine Xbv ?_;refine X1z ?_
 exact Y.1):q:=Jx x Y
theorem Xcz(Y:J p q:=by
 intro Y;refine X97 ?_;intro HH HI;have HT:=hZ ht;revert HH HI HT
 exact Y.1):q:=Jx x Y
theorem Xd0(Y:J p q:=by
 intro Y;have HD1:Hid ((d:Int)+1=((d+1:Nat):Int)):=hZ (by omega);revert HD1
 exact Y.1):q:=Jx x Y
theorem Xd1(Y:J p q:=by
 intro Y;refine Xt ?_;refine xaa rfl _ (xao (b:=false) _ _ rfl _ _ rfl rfl k0) ?_;refine X1a ?_
 exact Y.1):q:=Jx x Y
theorem Xd2(Y:J p q:=by
 intro Y;refine X9w ?_;refine X1a ?_
 exact Y.1):q:=Jx x Y
theorem Xd3(Y:J p q:=by
 intro Y;refine Xt ?_;refine Xd2 ?_
 exact Y.1):q:=Jx x Y
theorem Xd4(Y:J p q:=by
 intro Y;refine xaa rfl _ (xa6 _ _ rfl _ _ _ rfl rfl HD1.out (by omega)) ?_
 exact Y.1):q:=Jx x Y
theorem Xd5(Y:J p q:=by
 intro Y;refine X15 ?_;refine X11 ?_
 with_reducible exact Y.1):q:=Jx x Y
theorem Xd6(Y:J p q:=by
 intro Y;refine Xd5 ?_;refine xaa rfl _ (xbw xcq _ _ rfl A n c m .i64 rfl rfl (by omega)) ?_
 exact Y.1):q:=Jx x Y
theorem Xd7(Y:J p q:=by
 intro Y;refine xad cf226 rfl _ rfl ?_;simp only[qk,ql,Act.eval,qa,qb,qc,qd,qe]
 exact Y.1):q:=Jx x Y
theorem Xd8(Y:J p q:=by
 intro Y;refine Xd5 ?_;refine xaa rfl _ (xbt xcq _ _ rfl A n c m .i64 rfl rfl hmn) ?_
 exact Y.1):q:=Jx x Y
theorem Xd9(Y:J p q:=by
 intro Y;have HSV:Hid (Value.slice A 1 c=.slice (some ad) 1 c):=hZ (by rw[hA]);revert HSV
 exact Y.1):q:=Jx x Y
theorem Xda(Y:J p q:=by
 intro Y;have hD0:∀ ad,A=some ad→Old w ad.block∧¬ D ad.block:=fun ad e=>⟨hW.s.rd.lt (by simp[Wrt.cells]) e,hW.d (by simp) ad e⟩
 revert hD0
 exact Y.1):q:=Jx x Y
theorem Xdb(Y:J p q:=by
 intro Y;have htx:Tx w x.val.A x.val.n x.val.c l:=hW.tx 0 (by simp);revert htx
 exact Y.1):q:=Jx x Y
theorem Xdc(Y:J p q:=by
 intro Y;have HX:∀ (L:BL)(u:World),Loc w (Old w) L u→Hid (Rd u x.val.A (bvs l)):=fun L u hu=>hZ (htx.rd.below hu.below)
 revert HX
 exact Y.1):q:=Jx x Y
theorem Xdd(Y:J p q:=by
 intro Y;refine X97 ?_;intro HH HI;have HRM:Hid (σ.used<σ.room):=hZ (by omega);revert HH HI HRM
 exact Y.1):q:=Jx x Y
theorem Xde(Y:J p q:=by
 intro Y;have CL:∀ (L:BL)(u:World),Loc w (Old w) L u→Hid (Calls prog 146 #[pG gs,.agg x.key.c.toArray,x.val.v] u (Took D u gs g σ fun y=>⟨xb9 x.key l y,1,l⟩)):=fun L u hu=>hZ (xjv (HH.out.below hu.below) x.key x.val.A x.val.n x.val.c l (HX L u hu).out HTX.out.1 HTX.out.2.1 HTX.out.2.2.1 HTX.out.2.2.2 HRM.out)
 revert CL
 exact Y.1):q:=Jx x Y
theorem Xdf(Y:J p q:=by
 intro Y;refine rB (Loc.P HL) [] [2,7,17] [0,1,2,3,4,5,6,8,9,10,11,7,12,13,14,15,16,19,20,21,22,23,17,18,24,25] 0 ?_
 exact Y.1):q:=Jx x Y
theorem Xdg(Y:J p q:=by
 intro Y;(with_reducible refine(xcy (HH.out.sw.below HL.below) _ Nd.z [] false G0.out).mono ?_)
 exact Y.1):q:=Jx x Y
theorem Xdh(Y:J p q:=by
 intro Y;have CL7:Hid (Calls prog 146 #[pG gs,.agg x.key.c.toArray,x.val.v] w.drew (Took D w.drew gs g σ fun y=>⟨xb9 x.key l y,1,l⟩)):=CL _ _ HL.drew;have hS7:Stp D w0 D w.drew:=Stp.of_below HL.drew.below;revert CL7 hS7
 exact Y.1):q:=Jx x Y
theorem Xdi(Y:J p q:=by
 intro Y;refine rB (Loc.P HL) [] [9] [0,1,2,3,4,5,6,7,8,9,10,11,12,13,14] 0 ?_
 exact Y.1):q:=Jx x Y
theorem Xdj(Y:J p q:=by
 intro Y;refine xab rfl rfl HL (fun W hW=>xaz xcq (.tmp 50) _ rfl ad 1 c 0 .i64 HSV.out rfl (by decide)) ?_
 exact Y.1):q:=Jx x Y
theorem Xdk(Y:J p q:=by
 intro Y;refine xab rfl rfl HL (fun W hW=>xe0 xhj _ rfl _ rfl) ?_
 exact Y.1):q:=Jx x Y
theorem Xdl(Y:J p q:=by
 intro Y;refine xab rfl rfl HL (fun W hW=>xa5 ag24 _ rfl _ x.key.c rfl (HK2 _ _ hW).out (by omega) (D32.cl _)) ?_
 exact Y.1):q:=Jx x Y
theorem Xdm(Y:J p q:=by
 intro Y;refine xab rfl rfl HL (fun W hW=>xaz xcq (.tmp 54) _ rfl ad 1 c 0 .i64 HSV.out rfl (by decide)) ?_
 exact Y.1):q:=Jx x Y
theorem Xdn(Y:J p q:=by
 intro Y;refine xab rfl rfl HL (fun W hW=>xe0 xhk _ rfl _ rfl) ?_
 exact Y.1):q:=Jx x Y
theorem Xdo(Y:J p q:=by
 intro Y;refine xab rfl rfl HL (fun W hW=>xdi sc25 _ rfl _ x.val.v rfl (HV2 _ _ hW).out) ?_
 exact Y.1):q:=Jx x Y
theorem Xdp(Y:J p q:=by
 intro Y;refine X1w ?_;(with_reducible refine(CL7.out).mono ?_)
 exact Y.1):q:=Jx x Y
theorem Xdq(Y:J p q:=by
 intro Y;have G0:Hid (Got σ zo nd v true):=hZ (.inl ⟨rfl,i,hzi,hi,hnd,hvi,hci⟩);revert G0
 exact Y.1):q:=Jx x Y
theorem Xdr(Y:J p q:=by
 intro Y;(with_reducible refine(xcy (HH.out.sw.below HL.below) _ nd v true G0.out).mono ?_)
 exact Y.1):q:=Jx x Y
theorem Xds(Y:J p q:=by
 intro Y;refine xab rfl rfl HL (fun W hW=>xao (b:=true) _ _ rfl _ _ rfl rfl k3) ?_
 exact Y.1):q:=Jx x Y
theorem Xdt(Y:J p q:=by
 intro Y;refine xab rfl rfl HL (fun W hW=>xaz xcq (.tmp 27) _ rfl ad 1 c 0 .i64 HSV.out rfl (by decide)) ?_
 exact Y.1):q:=Jx x Y
theorem Xdu(Y:J p q:=by
 intro Y;refine xab rfl rfl HL (fun W hW=>xa5 ag24 _ rfl _ x.key.c rfl (HK _ _ hW).out (by omega) (D32.cl _)) ?_
 exact Y.1):q:=Jx x Y
theorem Xdv(Y:J p q:=by
 intro Y;(with_reducible refine(xij (HH.out.sw.below HL.below) _ nd v true G0.out).mono ?_)
 exact Y.1):q:=Jx x Y
theorem Xdw(Y:J p q:=by
 intro Y;refine rB (Loc.P HL) [] [2,7,17,18] [0,1,2,3,4,5,6,8,9,10,11,7,12,13,14,15,16,19,20,21,22,23,17,18,24,25] 0 ?_
 exact Y.1):q:=Jx x Y
theorem Xdx(Y:J p q:=by
 intro Y;refine xab rfl rfl HL (fun W hW=>xd1 ab23 _ _ rfl nd.key x.key rfl rfl true k12) ?_;refine X3j ?_
 exact Y.1):q:=Jx x Y
theorem Xdy(Y:J p q:=by
 intro Y;refine xab rfl rfl HL (fun W hW=>xaz xcq (.tmp 38) _ rfl ad 1 c 0 .i64 HSV.out rfl (by decide)) ?_
 exact Y.1):q:=Jx x Y
theorem Xdz(Y:J p q:=by
 intro Y;refine X6 ?_;refine xab rfl rfl HL (fun W hW=>xdi sc25 _ rfl _ x.val.v rfl (HV _ _ hW).out) ?_
 exact Y.1):q:=Jx x Y
theorem Xe0(Y:J p q:=by
 intro Y;refine xab rfl rfl HL (fun W hW=>xbz bt _ rfl x.val.A x.val.n x.val.c rfl l (HX _ _ hW).out HTX.out.1) ?_
 exact Y.1):q:=Jx x Y
theorem Xe1(Y:J p q:=by
 intro Y;(with_reducible refine(xks (HH.out.sw.below HL.below) _ nd v true G0.out HVN.out).mono ?_)
 exact Y.1):q:=Jx x Y
theorem Xe2(Y:J p q:=by
 intro Y;refine xab rfl rfl HL (fun W hW=>xmh underlying9 _ _ rfl v l rfl rfl k24) ?_;refine X3k ?_
 exact Y.1):q:=Jx x Y
theorem Xe3(Y:J p q:=by
 intro Y;refine xad cf224 rfl _ rfl ?_
 exact Y.1):q:=Jx x Y
theorem Xe4(Y:J p q:=by
 intro Y;refine xaa rfl _ (xao (b:=true) _ _ rfl _ _ rfl rfl kn) ?_
 exact Y.1):q:=Jx x Y
theorem Xe5(Y:J p q:=by
 intro Y;refine xaa rfl _ (xao (b:=false) _ _ rfl _ _ rfl rfl kn) ?_
 exact Y.1):q:=Jx x Y
theorem Xe6(Y:J p q:=by
 intro Y;refine xaa rfl _ (xdq (b:=true) _ _ rfl _ _ rfl rfl k3) ?_;refine X1z ?_
 exact Y.1):q:=Jx x Y
theorem Xe7(Y:J p q:=by
 intro Y;have HB2:=hZ ((HB.out.trans (HL.below.mono HB.out.size)).trans (hO.bel.mono (Nat.le_trans HB.out.size HL.fr.size)));have HFA:Hid (∀ q∈qs,∀ ad,q.1.val.A=some ad→w0.heap.size≤ad.block):=hZ (fun q hq ad e=>Nat.le_trans (Nat.le_trans HB.out.size HL.fr.size) (hO.fT q hq ad e));revert HB2 HFA
 exact Y.1):q:=Jx x Y
theorem Xe8(Y:J p q:=by
 intro Y;have HSQ:Hid (∀ k t,(k,t)∈qs.map entP↔((k,some t)∈es.map pw∨(k∉xbc es∧(k,t)∈told.ents))):=hZ (fun k t=>(hO.spec k t).trans (xut hti y HRI.out k t));revert HSQ
 exact Y.1):q:=Jx x Y
theorem Xe9(Y:J p q:=by
 intro Y;refine xaa rfl _ (xam underlying55 _ rfl v8 qs.length rfl HQL.out.2) ?_;refine X1e ?_
 exact Y.1):q:=Jx x Y
theorem Xea(Y:J p q:=by
 intro Y;have HRD:∀ (L:BL)(W:World),Loc w2 (Old w2) L W→Hid (Rd W (some (ad.add (i*33))) qs[i].1.cells):=fun L W hW=>hZ (hrd0.below hW.below)
 revert HRD
 exact Y.1):q:=Jx x Y
theorem Xeb(Y:J p q:=by
 intro Y;refine Xt ?_;refine xaa rfl _ (xaz sl55 (.tmp 46) _ rfl ad v8.n v8.c i .i64 HSV.out rfl hin) ?_
 exact Y.1):q:=Jx x Y
theorem Xec(Y:J p q:=by
 intro Y;have hshare:∀ p∈qs.map entP,∀ q∈qs.map entP,∀ e,e<d→tb p.1.l e=tb q.1.l e:=fun p hp q hq e he=>HAL.out _ (hkin p hp) _ (hkin q hq) e he
 revert hshare
 exact Y.1):q:=Jx x Y
theorem Xed(Y:J p q:=by
 intro Y;refine X6s ?_;refine X1u ?_;intro K hK;revert K hK
 exact Y.1):q:=Jx x Y
theorem Xee(Y:J p q:=by
 intro Y;refine Xd5 ?_;refine X1u ?_;intro K hK;revert K hK
 exact Y.1):q:=Jx x Y
theorem Xef(Y:J p q:=by
 intro Y;refine xaa rfl _ (xam underlying71 _ rfl ⟨aS gq,2,2⟩ 2 rfl rfl) ?_
 exact Y.1):q:=Jx x Y
theorem Xeg(Y:J p q:=by
 intro Y;have HP3:=hZ (HP2.out.below HL.below);have HS3:=hZ (HS2.out.trans (Stp.of_below HL.below));revert HP3 HS3
 exact Y.1):q:=Jx x Y
theorem Xeh(Y:J p q:=by
 intro Y;have HGQ:Hid (¬ D2 gq):=hZ (fun hk=>(HL.own _ (.head _)).1 (HP2.out.sb.lt _ hk));revert HGQ
 exact Y.1):q:=Jx x Y
theorem Xei(Y:J p q:=by
 intro Y;have HL:=Loc.of1 (Fr.refl (· = gq) w) HQ.out;revert HL
 exact Y.1):q:=Jx x Y
theorem Xej(Y:J p q:=by
 intro Y;refine Xt ?_;refine xaa rfl _ (xax (b:=true) _ _ rfl _ _ rfl rfl rfl) ?_;refine X1z ?_
 exact Y.1):q:=Jx x Y
theorem Xek(Y:J p q:=by
 intro Y;refine xaa rfl _ (xap sl71 _ _ rfl gq 2 2 0 .i64 rfl rfl (by decide)) ?_
 exact Y.1):q:=Jx x Y
theorem Xel(Y:J p q:=by
 intro Y;refine xaa rfl _ (xai sc3 HL _ rfl gq (0*1) rfl 3 _ (iV z1) (.head _) rfl) ?_
 exact Y.1):q:=Jx x Y
theorem Xem(Y:J p q:=by
 intro Y;refine X12 ?_;refine xaa rfl _ (xa9 (b:=false) _ _ rfl _ _ rfl rfl kz1) ?_
 exact Y.1):q:=Jx x Y
theorem Xen(Y:J p q:=by
 intro Y;refine xaa rfl _ (xap sl71 _ _ rfl gq 2 2 1 .i64 rfl rfl (by decide)) ?_
 exact Y.1):q:=Jx x Y
theorem Xeo(Y:J p q:=by
 intro Y;refine xaa rfl _ (xai sc3 HL _ rfl gq (1*1) rfl 3 _ (iV z2) (.head _) rfl) ?_
 exact Y.1):q:=Jx x Y
theorem Xep(Y:J p q:=by
 intro Y;refine X12 ?_;refine xaa rfl _ (xa9 (b:=false) _ _ rfl _ _ rfl rfl kz2) ?_
 exact Y.1):q:=Jx x Y
theorem Xeq(Y:J p q:=by
 intro Y;refine xaa rfl _ (xax (b:=false) _ _ rfl _ _ rfl rfl rfl) ?_;refine X1z ?_
 exact Y.1):q:=Jx x Y
theorem Xer(Y:J p q:=by
 intro Y;refine X12 ?_;refine xaa rfl _ (xa9 (b:=true) _ _ rfl _ _ rfl rfl kz2) ?_
 exact Y.1):q:=Jx x Y
theorem Xes(Y:J p q:=by
 intro Y;refine X12 ?_;refine xaa rfl _ (xa9 (b:=true) _ _ rfl _ _ rfl rfl kz1) ?_
 exact Y.1):q:=Jx x Y
theorem Xet(Y:J p q:=by
 intro Y;refine xaa rfl _ (xa9 (b:=false) _ _ rfl _ _ rfl rfl rfl) ?_
 exact Y.1):q:=Jx x Y
theorem Xeu(Y:J p q:=by
 intro Y;refine xac rfl _ (xai sc25 HL _ rfl _ _ rfl _ _ _ (.head _) (Wrt.g_val _)) ?_;refine X6 ?_;refine xac rfl _ (xam underlying25 _ rfl x.val lx.length rfl HVN.out) ?_
 exact Y.1):q:=Jx x Y
theorem Xev(Y:J p q:=by
 intro Y;refine X12 ?_;refine Xet ?_
 exact Y.1):q:=Jx x Y
theorem Xew(Y:J p q:=by
 intro Y;refine Xev ?_;refine X1z ?_
 exact Y.1):q:=Jx x Y
theorem Xex(Y:J p q:=by
 intro Y;refine X12 ?_;refine xaa rfl _ (xa9 (b:=true) _ _ rfl _ _ rfl rfl rfl) ?_;refine X1z ?_
 exact Y.1):q:=Jx x Y
theorem Xey(Y:J p q:=by
 intro Y;refine X1v ?_;intro K hK;refine xad cf95 rfl _ rfl ?_;revert K hK
 exact Y.1):q:=Jx x Y
theorem Xez(Y:J p q:=by
 intro Y;(with_reducible refine(xnz (HH.out.below HL.below)).mono ?_)
 exact Y.1):q:=Jx x Y
theorem Xf0(Y:J p q:=by
 intro Y;refine xad cf40 rfl _ rfl ?_
 exact Y.1):q:=Jx x Y
theorem Xf1(Y:J p q:=by
 intro Y;refine Xc ?_;refine bodyPost_ret (xay rfl ag24 _ _ g4 24 _ rfl (HL.blk (.head _)) (D32.cl _)) rfl ?_
 exact Y.1):q:=Jx x Y
theorem Xf2(Y:J p q:=by
 intro Y;refine X1w ?_;(with_reducible refine(xnz HH.out).mono ?_)
 exact Y.1):q:=Jx x Y
theorem Xf3(Y:J p q:=by
 intro Y;refine xaa rfl _ (xaf xsa _ rfl _ rfl) ?_;simp only[Act.put,qf,qg,qh]
 exact Y.1):q:=Jx x Y
theorem Xf4(Y:J p q:=by
 intro Y;refine X14 ?_;refine xaa rfl _ (xaf xnb _ rfl _ rfl) ?_
 exact Y.1):q:=Jx x Y
theorem Xf5(Y:J p q:=by
 intro Y;refine xaa rfl _ (xdr xl1 HL _ rfl _ rfl _ (by with_reducible assumption)) ?_
 exact Y.1):q:=Jx x Y
theorem Xf6(Y:J p q:=by
 intro Y;refine xad cf82 rfl _ rfl ?_;simp only[qk,ql,Act.eval,qa,qb,qc,qd,qe]
 exact Y.1):q:=Jx x Y
theorem Xf7(Y:J p q:=by
 intro Y;(with_reducible refine(xmj (HH.out.below HL.below)).mono ?_)
 exact Y.1):q:=Jx x Y
theorem Xf8(Y:J p q:=by
 intro Y;refine Xc ?_;refine bodyPost_ret (xay rfl ag23 _ _ g4 23 _ rfl (HL.blk (.head _)) (D32.cl _)) rfl ?_
 exact Y.1):q:=Jx x Y
theorem Xf9(Y:J p q:=by
 intro Y;refine X2j ?_;intro K hK;refine xad cf89 rfl _ rfl ?_;revert K hK
 exact Y.1):q:=Jx x Y
theorem Xfa(Y:J p q:=by
 intro Y;refine X1w ?_;(with_reducible refine(xps (HH.out.below HL.below) A c key (HL.rdO HR.out) hc).mono ?_)
 exact Y.1):q:=Jx x Y
theorem Xfb(Y:J p q:=by
 intro Y;refine X6w ?_;refine X4c ?_;intro w HL;revert w HL
 exact Y.1):q:=Jx x Y
theorem Xfc(Y:J p q:=by
 intro Y;refine xah zr24 rfl rfl HL ?_;intro g7 w HL;refine Xfb ?_;clear HL;intro w HL;revert g7 w HL
 exact Y.1):q:=Jx x Y
theorem Xfd(Y:J p q:=by
 intro Y;have HA:(∀ k,D k→¬ (Old w0 k∧¬ D k))∧∀ y∈[(g7,24,key.c)],¬ D y.1:=⟨fun k hk hd=>hd.2 hk,fun y hy hk=>(HL.own y hy).1 (HH.out.st.sb.lt _ hk)⟩;revert HA
 exact Y.1):q:=Jx x Y
theorem Xfe(Y:J p q:=by
 intro Y;refine rB (Loc.P HL) [] [10] [0,1,2,3,4,5,6,7,8,9,10,11,12,13,14,15] 0 ?_
 exact Y.1):q:=Jx x Y
theorem Xff(Y:J p q:=by
 intro Y;refine X3e ?_;intro HL;refine xab rfl rfl HL (fun W hW=>xaf xnb _ rfl _ rfl) ?_;refine X6 ?_;refine xab rfl rfl HL (fun W hW=>xa8 xl1 hW _ rfl _ rfl _ hgd hc1) ?_;revert HL
 exact Y.1):q:=Jx x Y
theorem Xfg(Y:J p q:=by
 intro Y;refine X3h ?_;refine xab rfl rfl HL (fun W hW=>xaf xsa _ rfl _ rfl) ?_;simp only[Act.put,qf,qg,qh]
 exact Y.1):q:=Jx x Y
theorem Xfh(Y:J p q:=by
 intro Y;refine Xff ?_;intro HL;refine Xfg ?_;refine xab rfl rfl HL (fun W hW=>xa8 sc3 hW _ rfl _ rfl _ hgd hc2) ?_;revert HL
 exact Y.1):q:=Jx x Y
theorem Xfi(Y:J p q:=by
 intro Y;refine xa3 sc3 rfl _ _ rfl HL 0 _ _ _ _ _ _ rfl rfl rfl rfl (by simp) (rfl) ?_
 exact Y.1):q:=Jx x Y
theorem Xfj(Y:J p q:=by
 intro Y;refine X6 ?_;refine xaa rfl _ (xai sc25 HL _ rfl _ _ rfl _ _ _ (.head _) (Rw.g_key _)) ?_
 exact Y.1):q:=Jx x Y
theorem Xfk(Y:J p q:=by
 intro Y;refine xaa rfl _ (xao (b:=false) _ _ rfl _ _ rfl rfl rfl) ?_
 exact Y.1):q:=Jx x Y
theorem Xfl(Y:J p q:=by
 intro Y;refine xaa rfl _ (xao (b:=true) _ _ rfl _ _ rfl rfl rfl) ?_
 exact Y.1):q:=Jx x Y
theorem Xfm(Y:J p q:=by
 intro Y;refine X12 ?_;refine Xfl ?_
 exact Y.1):q:=Jx x Y
theorem Xfn(Y:J p q:=by
 intro Y;refine xad cf182 rfl _ rfl ?_;simp only[qk,ql,Act.eval,qa,qb,qc,qd,qe]
 exact Y.1):q:=Jx x Y
theorem Xfo(Y:J p q:=by
 intro Y;(with_reducible refine(vs_none (HH.out.below HL.below)).mono ?_)
 exact Y.1):q:=Jx x Y
theorem Xfp(Y:J p q:=by
 intro Y;refine X14 ?_;refine xaa rfl _ (xaf xsj _ rfl _ rfl) ?_;simp only[Act.put,qf,qg,qh]
 exact Y.1):q:=Jx x Y
theorem Xfq(Y:J p q:=by
 intro Y;refine Xfp ?_;refine xaa rfl _ (xa8 sc257 HL _ rfl _ rfl _ hgv hv1) ?_
 exact Y.1):q:=Jx x Y
theorem Xfr(Y:J p q:=by
 intro Y;refine xaa rfl _ (xaf fa259_0 _ rfl _ rfl) ?_
 exact Y.1):q:=Jx x Y
theorem Xfs(Y:J p q:=by
 intro Y;refine xaa rfl _ (xa8 xl1 HL _ rfl _ rfl _ hgv hv0) ?_
 exact Y.1):q:=Jx x Y
theorem Xft(Y:J p q:=by
 intro Y;have CR:∀ u,Bw w u→Hid (Calls prog 128 #[pG gv,.string ⟨s.toArray⟩] u fun e w'=>e=.returned (.tuple #[iV z,iV 0])∧u=w'):=fun u hu=>hZ (vs_root (h.below hu) hnd s hs z j hj)
 revert CR
 exact Y.1):q:=Jx x Y
theorem Xfu(Y:J p q:=by
 intro Y;refine xad cf128 rfl _ rfl ?_;simp only[qk,ql,Act.eval,qa,qb,qc,qd,qe]
 exact Y.1):q:=Jx x Y
theorem Xfv(Y:J p q:=by
 intro Y;(with_reducible refine((CR _ HL.below).out).mono ?_)
 exact Y.1):q:=Jx x Y
theorem Xfw(Y:J p q:=by
 intro Y;refine xab rfl rfl HL (fun W hW=>xap sl29 _ _ rfl g n cap i .i64 rfl rfl (by omega)) ?_
 exact Y.1):q:=Jx x Y
theorem Xfx(Y:J p q:=by
 intro Y;refine Xh ?_;intro K hK;refine xbe ag23.i _ _ rfl g (i*32) 23 _ _ rfl rfl hb (D32.cl _) hil (D32.c1 _) ?_;revert K hK
 exact Y.1):q:=Jx x Y
theorem Xfy(Y:J p q:=by
 intro Y;refine xcs rfl _ rfl HL _ rfl ?_;intro g1 w HL;refine X1a ?_;revert g1 w HL
 exact Y.1):q:=Jx x Y
theorem Xfz(Y:J p q:=by
 intro Y;refine xaa rfl _ (xaf fa124_0 _ rfl _ rfl) ?_;refine X6 ?_;refine xaa rfl _ (xai sc30 HL _ rfl _ _ rfl _ _ _ (.head _) (Brv.g_kind _)) ?_
 exact Y.1):q:=Jx x Y
theorem Xg0(Y:J p q:=by
 intro Y;refine Xt ?_;refine Xfz ?_
 exact Y.1):q:=Jx x Y
theorem Xg1(Y:J p q:=by
 intro Y;refine Xg0 ?_;refine X1z ?_
 exact Y.1):q:=Jx x Y
theorem Xg2(Y:J p q:=by
 intro Y;refine xaa rfl _ (xbn xl0 HL _ rfl _ rfl _ _ (.head _) (Brv.len _)) ?_
 exact Y.1):q:=Jx x Y
theorem Xg3(Y:J p q:=by
 intro Y;refine xaa rfl _ (xk4 _ _ rfl b ⟨b.kind,D32.z,D32.z,D32.z⟩ rfl rfl r hr) ?_;refine X1a ?_
 exact Y.1):q:=Jx x Y
theorem Xg4(Y:J p q:=by
 intro Y;refine xaa rfl _ (xao (b:=true) _ _ rfl _ _ rfl rfl k2) ?_
 exact Y.1):q:=Jx x Y
theorem Xg5(Y:J p q:=by
 intro Y;refine Xt ?_;refine Xal ?_;refine X1a ?_
 exact Y.1):q:=Jx x Y
theorem Xg6(Y:J p q:=by
 intro Y;refine xaa rfl _ (xao (b:=true) _ _ rfl _ _ rfl rfl k1) ?_
 exact Y.1):q:=Jx x Y
theorem Xg7(Y:J p q:=by
 intro Y;refine xaa rfl _ (xaf fa124_3 _ rfl _ rfl) ?_
 exact Y.1):q:=Jx x Y
theorem Xg8(Y:J p q:=by
 intro Y;refine xaa rfl _ (xav ag23 HL _ rfl _ _ rfl _ _ _ (.head _) (Brv.g_dig _) (D32.cl _)) ?_
 exact Y.1):q:=Jx x Y
theorem Xg9(Y:J p q:=by
 intro Y;refine xaa rfl _ (xc2 _ rfl D32.z.c.toArray (by kernel_rfl)) ?_
 exact Y.1):q:=Jx x Y
theorem Xga(Y:J p q:=by
 intro Y;refine xaa rfl _ (xb3 underlying26 _ rfl _ _ _ rfl) ?_
 exact Y.1):q:=Jx x Y
theorem Xgb(Y:J p q:=by
 intro Y;refine Xga ?_;simp only[Act.put,qf,qg,qh]
 exact Y.1):q:=Jx x Y
theorem Xgc(Y:J p q:=by
 intro Y;refine X19 ?_;refine Xgb ?_
 exact Y.1):q:=Jx x Y
theorem Xgd(Y:J p q:=by
 intro Y;refine Xgc ?_;refine Xap ?_
 exact Y.1):q:=Jx x Y
theorem Xge(Y:J p q:=by
 intro Y;refine xac rfl _ (xaz sl26 (.tmp 11) _ rfl ad n c i .i64 HSV.out rfl hlt) ?_
 exact Y.1):q:=Jx x Y
theorem Xgf(Y:J p q:=by
 intro Y;refine xac rfl _ (xa5 ag24 _ rfl _ ks[i].c rfl (HL.rdO HE.out) (by omega) (D32.cl _)) ?_
 exact Y.1):q:=Jx x Y
theorem Xgg(Y:J p q:=by
 intro Y;refine xac rfl _ (xao (b:=true) _ _ rfl _ _ rfl rfl rfl) ?_;refine X28 ?_
 exact Y.1):q:=Jx x Y
theorem Xgh(Y:J p q:=by
 intro Y;refine xac rfl _ (xao (b:=false) _ _ rfl _ _ rfl rfl rfl) ?_;refine X28 ?_
 exact Y.1):q:=Jx x Y
theorem Xgi(Y:J p q:=by
 intro Y;refine xaa rfl _ (xgi underlying9 _ rfl s rfl) ?_
 exact Y.1):q:=Jx x Y
theorem Xgj(Y:J p q:=by
 intro Y;refine xaa rfl _ (xax (b:=true) _ _ rfl _ _ rfl rfl k1) ?_
 exact Y.1):q:=Jx x Y
theorem Xgk(Y:J p q:=by
 intro Y;refine xaa rfl _ (xax (b:=false) _ _ rfl _ _ rfl rfl k1) ?_
 exact Y.1):q:=Jx x Y
theorem Xgl(Y:J p q:=by
 intro Y;refine xac rfl _ (xao (b:=false) _ _ rfl _ _ rfl rfl k0) ?_
 exact Y.1):q:=Jx x Y
theorem Xgm(Y:J p q:=by
 intro Y;refine X26 ?_;refine X1m ?_
 exact Y.1):q:=Jx x Y
theorem Xgn(Y:J p q:=by
 intro Y;refine Xgm ?_;refine xac rfl _ (xdq (b:=true) _ _ rfl _ _ rfl rfl k3) ?_
 exact Y.1):q:=Jx x Y
theorem Xgo(Y:J p q:=by
 intro Y;refine xaa rfl _ (xaf xr9 _ rfl _ rfl) ?_
 exact Y.1):q:=Jx x Y
theorem Xgp(Y:J p q:=by
 intro Y;refine xaa rfl _ (xaf xr8 _ rfl _ rfl) ?_
 exact Y.1):q:=Jx x Y
theorem Xgq(Y:J p q:=by
 intro Y;have HSO:Hid (∀ i,i≤way.length→(subF key 0 told i).Ok i∧Near key i (subF key 0 told i)∧(subF key 0 told i).size≤told.size):=hZ (fun i hi=>xrh hok i fun j hj=>(hw.sub j (by omega)).1);revert HSO
 exact Y.1):q:=Jx x Y
theorem Xgr(Y:J p q:=by
 intro Y;have HRT:Hid (∀ u,StP D u gs g σ vs vf→Calls prog 143 #[pG gs,iV root] u (oB u (iV 0))):=hZ (xs1 hI ht);revert HRT
 exact Y.1):q:=Jx x Y
theorem Xgs(Y:J p q:=by
 intro Y;have HB1:Hid (Bw w0 w):=hZ (HL.below.trans (hb.mono HL.below.size));revert HB1
 exact Y.1):q:=Jx x Y
theorem Xgt(Y:J p q:=by
 intro Y;have HIN:Hid (InS D w2 gs g σ (rt1 root R) σ.used σ w2):=hZ ⟨⟨D,vs,vf,HP0.out.1,Stp.refl _ _⟩,HI.out,fun i hi hc=>⟨hi,rfl,rfl,hc⟩,rfl,Nat.le_refl _⟩;revert HIN
 exact Y.1):q:=Jx x Y
theorem Xgu(Y:J p q:=by
 intro Y;have HRDW:∀ wx,Loc w2 (fun k=>Old w2 k∧¬ D k) [] wx→Hid (Rd wx v.A (iZ way)):=fun wx hx=>hZ (HWR.out.keepE hx (fun hne ad e=>HDV.out ad e hne))
 revert HRDW
 exact Y.1):q:=Jx x Y
theorem Xgv(Y:J p q:=by
 intro Y;refine xaa rfl _ (xc9 ag24 HL _ rfl _ _ rfl _ _ _ hO6 HB6.out hcK (D32.cl _)) ?_
 exact Y.1):q:=Jx x Y
theorem Xgw(Y:J p q:=by
 intro Y;refine xaa rfl _ (xa8 sc71 HL _ rfl _ rfl _ hO11 hc0) ?_
 exact Y.1):q:=Jx x Y
theorem Xgx(Y:J p q:=by
 intro Y;refine xaa rfl _ (xam underlying71 _ rfl v way.length rfl HVN.out) ?_
 exact Y.1):q:=Jx x Y
theorem Xgy(Y:J p q:=by
 intro Y;have hsi:=(HW.out.sub d hd1).1;obtain⟨s1,s2,s3,s4,s5,s6,s7⟩:=xn8 hsd.1 hsd.2.1 hsi;revert hsi s1 s2 s3 s4 s5 s6 s7
 exact Y.1):q:=Jx x Y
theorem Xgz(Y:J p q:=by
 intro Y;have HAT:Hid ((iZ way)[d*1]? = some (iV zw)):=hZ (iZ_at hat5);revert HAT
 exact Y.1):q:=Jx x Y
theorem Xh0(Y:J p q:=by
 intro Y;refine xaa rfl _ (xa9 (b:=!bo) _ _ rfl _ _ rfl rfl (by rw[HBO.out,Bool.not_not])) ?_
 exact Y.1):q:=Jx x Y
theorem Xh1(Y:J p q:=by
 intro Y;refine X7n ?_;(with_reducible refine(xgd (HH.out.below HL.below) z n val true HG.out).mono ?_)
 exact Y.1):q:=Jx x Y
theorem Xh2(Y:J p q:=by
 intro Y;(with_reducible refine(xcy (HP.out.below HL.below) fin nf vl okf HGF.out).mono ?_)
 exact Y.1):q:=Jx x Y
theorem Xh3(Y:J p q:=by
 intro Y;rintro e w ⟨rfl,hb⟩;replace HX:=HX.next hb;replace HL:=HL.next hb;revert w hb HX HL
 exact Y.1):q:=Jx x Y
theorem Xh4(Y:J p q:=by
 intro Y;refine xab rfl rfl HL (fun W hW=>xao (b:=true) _ _ rfl _ _ rfl rfl HLF.out) ?_;refine X95 ?_
 exact Y.1):q:=Jx x Y
theorem Xh5(Y:J p q:=by
 intro Y;refine xab rfl rfl HL (fun W hW=>xc9 ag24 hW _ rfl _ _ rfl _ _ _ hO5 HB5.out hcK (D32.cl _)) ?_
 exact Y.1):q:=Jx x Y
theorem Xh6(Y:J p q:=by
 intro Y;(with_reducible refine(xij (HP.out.below HL.below) fin nf vl okf HGF.out).mono ?_)
 exact Y.1):q:=Jx x Y
theorem Xh7(Y:J p q:=by
 intro Y;refine xab rfl rfl HL (fun W hW=>xd1 ab23 _ _ rfl nf.key key rfl rfl ke HKE.out) ?_
 exact Y.1):q:=Jx x Y
theorem Xh8(Y:J p q:=by
 intro Y;refine xab rfl rfl HL (fun W hW=>xbp bs343 _ rfl _ (by exact xp0 v ke)) ?_
 exact Y.1):q:=Jx x Y
theorem Xh9(Y:J p q:=by
 intro Y;have HL:Loc w2 (Old w2) [] w:=HX.drop _ (sB _ _);revert HL
 exact Y.1):q:=Jx x Y
theorem Xha(Y:J p q:=by
 intro Y;refine xmm xl2 _ _ rfl HX 0 g10 343 Pln.z.cells (⟨v,ke,0,0,false⟩:Pln).cells rfl rfl rfl (Pln.len _) (Pln.len _) (Pln.one _) ?_
 exact Y.1):q:=Jx x Y
theorem Xhb(Y:J p q:=by
 intro Y;refine X3r ?_;refine Xb ?_
 exact Y.1):q:=Jx x Y
theorem Xhc(Y:J p q:=by
 intro Y;refine xab rfl rfl HL (fun W hW=>xao (b:=false) _ _ rfl _ _ rfl rfl HLF.out) ?_;refine X3g ?_
 exact Y.1):q:=Jx x Y
theorem Xhd(Y:J p q:=by
 intro Y;refine xab rfl rfl HL (fun W hW=>xbp bs343 _ rfl _ (by exact xp0 v false)) ?_
 exact Y.1):q:=Jx x Y
theorem Xhe(Y:J p q:=by
 intro Y;refine xmm xl2 _ _ rfl HX 0 g10 343 Pln.z.cells (⟨v,false,0,0,false⟩:Pln).cells rfl rfl rfl (Pln.len _) (Pln.len _) (Pln.one _) ?_
 exact Y.1):q:=Jx x Y
theorem Xhf(Y:J p q:=by
 intro Y;refine xaa rfl _ (xao (b:=false) _ _ rfl _ _ rfl rfl k8) ?_
 exact Y.1):q:=Jx x Y
theorem Xhg(Y:J p q:=by
 intro Y;refine xaa rfl _ (xaf xsm _ rfl _ rfl) ?_
 exact Y.1):q:=Jx x Y
theorem Xhh(Y:J p q:=by
 intro Y;refine X6 ?_;refine xaa rfl _ (xai sc3 HL _ rfl _ _ rfl _ _ _ (.head _) (Pln.g_stays _)) ?_
 exact Y.1):q:=Jx x Y
theorem Xhi(Y:J p q:=by
 intro Y;refine xaa rfl _ (xaf xsn _ rfl _ rfl) ?_
 exact Y.1):q:=Jx x Y
theorem Xhj(Y:J p q:=by
 intro Y;refine xaa rfl _ (xbn xl2 HL _ rfl _ rfl _ _ (.head _) (Pln.len _)) ?_
 exact Y.1):q:=Jx x Y
theorem Xhk(Y:J p q:=by
 intro Y;refine xbo xl2 rfl _ _ rfl HL 1 _ _ _ _ rfl rfl rfl (Pln.len _) (Pln.len _) (Pln.one _) ?_
 exact Y.1):q:=Jx x Y
theorem Xhl(Y:J p q:=by
 intro Y;(try simp only[Exit.inBlock,Exit.then,Exit.noGoto_ret])
 exact Y.1):q:=Jx x Y
theorem Xhm(Y:J p q:=by
 intro Y;refine bodyPost_ret (xb8 rfl xl2 _ _ g6 343 _ rfl (HL.blk (.tail _ (.head _))) (Pln.len _)) rfl ?_
 exact Y.1):q:=Jx x Y
theorem Xhn(Y:J p q:=by
 intro Y;refine X19 ?_;refine xaa rfl _ (xc9 ag24 HL _ rfl _ _ rfl _ _ _ hO5 HB5.out hcK (D32.cl _)) ?_
 exact Y.1):q:=Jx x Y
theorem Xho(Y:J p q:=by
 intro Y;(with_reducible refine(xps (HH.out.dc.below HL.below) A c key (HL.rdO HR.out) hc).mono ?_)
 exact Y.1):q:=Jx x Y
theorem Xhp(Y:J p q:=by
 intro Y;have hgd:Old w0 gd∧¬ D gd:=⟨HH.out.blk.lt,HH.out.fd⟩;have HB:Hid (Below w0.heap.size w0 w.drew):=hZ HL.drew.below;revert hgd HB
 exact Y.1):q:=Jx x Y
theorem Xhq(Y:J p q:=by
 intro Y;refine X1w ?_;(with_reducible refine((CP _ HB.out).out).mono ?_)
 exact Y.1):q:=Jx x Y
theorem Xhr(Y:J p q:=by
 intro Y;have HS2:Hid (Stp (dA D gd gv gm) w0 (dA D2 gd gv gm) w):=hZ ((Stp.of_below HB.out).trans hS2.dict);have HQ:=hZ (And.intro hI2 (And.intro hK2 (And.intro hT2 (And.intro hr2 (And.intro hu2 hsp2)))));revert HS2 HQ
 exact Y.1):q:=Jx x Y
theorem Xhs(Y:J p q:=by
 intro Y;(with_reducible refine(xu7 (HH.out.dc.below HL.below) A n c l (HL.rdO HR.out) hl hn hc hb).mono ?_)
 exact Y.1):q:=Jx x Y
theorem Xht(Y:J p q:=by
 intro Y;have CR:∀ u,Bw w u→Hid (Calls prog 128 #[pG gv,.string ⟨s.toArray⟩] u fun e w'=>e=.returned (.tuple #[iV 0,iV 7])∧u=w'):=fun u hu=>hZ (xrl (h.below hu) s hs hno)
 revert CR
 exact Y.1):q:=Jx x Y
theorem Xhu(Y:J p q:=by
 intro Y;refine xad cf123 rfl _ rfl ?_;simp only[qk,ql,Act.eval,qa,qb,qc,qd,qe]
 exact Y.1):q:=Jx x Y
theorem Xhv(Y:J p q:=by
 intro Y;(with_reducible refine(xs6 (HH.out.below HL.below).dc).mono ?_)
 exact Y.1):q:=Jx x Y
theorem Xhw(Y:J p q:=by
 intro Y;refine xaa rfl _ (xa8 sc161 HL _ rfl _ rfl _ hgd hc0) ?_
 exact Y.1):q:=Jx x Y
theorem Xhx(Y:J p q:=by
 intro Y;refine Xt ?_;refine xaa rfl _ (xaf fa159_0 _ rfl _ rfl) ?_;refine X6 ?_;refine xaa rfl _ (xai sc5 HL _ rfl _ _ rfl _ _ _ (.head _) (Acv.g_kind _)) ?_;refine X1z ?_
 exact Y.1):q:=Jx x Y
theorem Xhy(Y:J p q:=by
 intro Y;refine X6 ?_;refine xaa rfl _ (xai sc25 HL _ rfl _ _ rfl _ _ _ (.head _) (Acv.g_key _)) ?_
 exact Y.1):q:=Jx x Y
theorem Xhz(Y:J p q:=by
 intro Y;refine xad cf34 rfl _ rfl ?_;simp only[qk,ql,Act.eval,qa,qb,qc,qd,qe]
 exact Y.1):q:=Jx x Y
theorem Xi0(Y:J p q:=by
 intro Y;have HS:=hZ ((Stp.of_below HL.below).trans hs);revert HS
 exact Y.1):q:=Jx x Y
theorem Xi1(Y:J p q:=by
 intro Y;refine xaa rfl _ (xaf fa159_4 _ rfl _ rfl) ?_
 exact Y.1):q:=Jx x Y
theorem Xi2(Y:J p q:=by
 intro Y;refine xaa rfl _ (xai sc73 HL _ rfl _ _ rfl _ _ _ (.head _) (Acv.g_ls _)) ?_
 exact Y.1):q:=Jx x Y
theorem Xi3(Y:J p q:=by
 intro Y;refine xaa rfl _ (xaf fa159_1 _ rfl _ rfl) ?_
 exact Y.1):q:=Jx x Y
theorem Xi4(Y:J p q:=by
 intro Y;refine xaa rfl _ (xai sc9 HL _ rfl _ _ rfl _ _ _ (.head _) (Acv.g_name _)) ?_
 exact Y.1):q:=Jx x Y
theorem Xi5(Y:J p q:=by
 intro Y;refine Xt ?_;refine xaa rfl _ (xao (b:=false) _ _ rfl _ _ rfl rfl k7) ?_;refine X1a ?_
 exact Y.1):q:=Jx x Y
theorem Xi6(Y:J p q:=by
 intro Y;refine xaa rfl _ (xao (b:=true) _ _ rfl _ _ rfl rfl k9) ?_
 exact Y.1):q:=Jx x Y
theorem Xi7(Y:J p q:=by
 intro Y;refine xaa rfl _ (xao (b:=false) _ _ rfl _ _ rfl rfl k9) ?_;refine X1a ?_
 exact Y.1):q:=Jx x Y
theorem Xi8(Y:J p q:=by
 intro Y;refine xlp bt _ _ rfl .i64 .i64 32 32 rfl rfl (by omega) (by omega) ?_
 exact Y.1):q:=Jx x Y
theorem Xi9(Y:J p q:=by
 intro Y;have hbw:Below w1.heap.size w1 ((w1.drew.alloc (.cells (bvs (List.replicate 32 0)).toArray 5)).alloc (.cells (bvs (List.replicate 32 0)).toArray 5)):=((Below.refl _ w1).drew).trans h2.2.2.2.2;revert hbw
 exact Y.1):q:=Jx x Y
theorem Xia(Y:J p q:=by
 intro Y;refine X5p ?_;refine X4c ?_;intro w HL;revert w HL
 exact Y.1):q:=Jx x Y
theorem Xib(Y:J p q:=by
 intro Y;refine Xt ?_;refine Xg9 ?_
 exact Y.1):q:=Jx x Y
theorem Xic(Y:J p q:=by
 intro Y;(with_reducible refine(xjn _ none 0 0 [] (Rd.nil _ _) rfl (by omega) (by omega) (by omega)).mono ?_)
 exact Y.1):q:=Jx x Y
theorem Xid(Y:J p q:=by
 intro Y;refine X1w ?_;(with_reducible refine(xig _ ky (tagV [])).mono ?_)
 exact Y.1):q:=Jx x Y
theorem Xie(Y:J p q:=by
 intro Y;refine X19 ?_;refine xaa rfl _ (xam underlying84 _ rfl ⟨A,n,c⟩ n rfl rfl) ?_
 exact Y.1):q:=Jx x Y
theorem Xif(Y:J p q:=by
 intro Y;refine xaa rfl _ (xax (b:=true) _ _ rfl _ _ rfl rfl k3) ?_
 exact Y.1):q:=Jx x Y
theorem Xig(Y:J p q:=by
 intro Y;refine xac rfl _ (xax (b:=bb) _ _ rfl _ _ rfl rfl hbb) ?_;refine X28 ?_
 exact Y.1):q:=Jx x Y
theorem Xih(Y:J p q:=by
 intro Y;refine xaa rfl _ (xax (b:=false) _ _ rfl _ _ rfl rfl k3) ?_
 exact Y.1):q:=Jx x Y
theorem Xii(Y:J p q:=by
 intro Y;refine xaa rfl _ (xam underlying26 _ rfl ⟨A,n,c⟩ n rfl rfl) ?_
 exact Y.1):q:=Jx x Y
theorem Xij(Y:J p q:=by
 intro Y;refine xab rfl rfl HL (fun W hW=>xap sl26 _ _ rfl g n c (m+1) .i64 rfl rfl hjn) ?_
 exact Y.1):q:=Jx x Y
theorem Xik(Y:J p q:=by
 intro Y;refine xab rfl rfl HL (fun W hW=>xav ag24 hW _ rfl g ((m+1)*32) rfl 24 _ x.c (.head _) Hx (D32.cl _)) ?_
 exact Y.1):q:=Jx x Y
theorem Xil(Y:J p q:=by
 intro Y;refine xab rfl rfl HL (fun W hW=>xap sl26 _ _ rfl g n c m .i64 rfl rfl (by omega)) ?_
 exact Y.1):q:=Jx x Y
theorem Xim(Y:J p q:=by
 intro Y;refine xab rfl rfl HL (fun W hW=>xav ag24 hW _ rfl g (m*32) rfl 24 _ y.c (.head _) Hy (D32.cl _)) ?_
 exact Y.1):q:=Jx x Y
theorem Xin(Y:J p q:=by
 intro Y;refine Xh ?_;intro K hK;refine xbe ag24.i _ _ rfl g ((m+1)*32) 24 _ _ rfl rfl hb (D32.cl _) hjl (D32.c1 _) ?_;revert K hK
 exact Y.1):q:=Jx x Y
theorem Xio(Y:J p q:=by
 intro Y;refine xaa rfl _ (xax _ _ rfl _ _ rfl rfl k2) ?_
 exact Y.1):q:=Jx x Y
theorem Xip(Y:J p q:=by
 intro Y;refine xab rfl rfl HL (fun W hW=>xaf xnc _ rfl _ rfl) ?_
 exact Y.1):q:=Jx x Y
theorem Xiq(Y:J p q:=by
 intro Y;refine xab rfl rfl HL (fun W hW=>xai sc128 hW _ rfl _ _ rfl _ _ _ (.tail _ (.head _)) (xrg _ _ _)) ?_
 exact Y.1):q:=Jx x Y
theorem Xir(Y:J p q:=by
 intro Y;refine xab rfl rfl HL (fun W hW=>xaf xjo _ rfl _ rfl) ?_
 exact Y.1):q:=Jx x Y
theorem Xis(Y:J p q:=by
 intro Y;have HL:=HX.drop [(g5,23,h.c),(gr,199,rdrC rest tagE ⟨aS gw,n,n⟩),(gw,34,(ys++x::zs').flatMap Prv.cells)] (by simp);revert HL
 exact Y.1):q:=Jx x Y
theorem Xit(Y:J p q:=by
 intro Y;refine xah zr23 rfl rfl HL ?_;intro g12 w HL;revert g12 w HL
 exact Y.1):q:=Jx x Y
theorem Xiu(Y:J p q:=by
 intro Y;refine Xt ?_;refine X9y ?_;intro g10 w HL;refine X6 ?_;refine Xit ?_;clear HL;intro g12 w HL;refine X1a ?_;revert g10 g12 w HL
 exact Y.1):q:=Jx x Y
theorem Xiv(Y:J p q:=by
 intro Y;refine xaa rfl _ (xaf xsb _ rfl _ rfl) ?_;simp only[Act.put,qf,qg,qh]
 exact Y.1):q:=Jx x Y
theorem Xiw(Y:J p q:=by
 intro Y;refine X14 ?_;refine Xiv ?_;refine xaa rfl _ (xai sc42 HL _ rfl _ _ rfl _ _ _ (.tail _ (.tail _ (.head _))) (xn6 _ _ _)) ?_;simp only[Act.put,qf,qg,qh]
 exact Y.1):q:=Jx x Y
theorem Xix(Y:J p q:=by
 intro Y;refine Xiw ?_;refine xaa rfl _ (xb3 underlying42 _ rfl _ _ _ rfl) ?_;simp only[Act.put,qf,qg,qh]
 exact Y.1):q:=Jx x Y
theorem Xiy(Y:J p q:=by
 intro Y;refine Xc ?_;refine bodyPost_ret (xay rfl ag23 _ _ g12 23 _ rfl (HL.blk (.head _)) (D32.cl _)) rfl ?_
 exact Y.1):q:=Jx x Y
theorem Xiz(Y:J p q:=by
 intro Y;refine X24 ?_;refine X1p ?_;refine xac rfl _ (xaf xsb _ rfl _ rfl) ?_;simp only[Act.put,qf,qg,qh]
 exact Y.1):q:=Jx x Y
theorem Xj0(Y:J p q:=by
 intro Y;refine Xix ?_;refine X9w ?_;refine Xiz ?_;refine xac rfl _ (xai sc42 HL _ rfl _ _ rfl _ _ _ (.tail _ (.tail _ (.head _))) (xn6 _ _ _)) ?_;refine X6 ?_;refine xac rfl _ (xaz sl42 (.tmp 33) _ rfl ad rest.n rest.c 0 .i64 HSV.out rfl hr0) ?_;refine X6 ?_;refine xac rfl _ (xa5 xl0 _ rfl _ b.cells rfl (hbrd _ _ HL) (by omega) (Brv.len _)) ?_;refine X6 ?_;refine X5i ?_;intro K hK;refine xad cf166 rfl _ rfl ?_;refine Xaw ?_;refine X4y ?_;clear hK K;intro w HL;revert w HL
 exact Y.1):q:=Jx x Y
theorem Xj1(Y:J p q:=by
 intro Y;refine Xj0 ?_;intro w HL;refine xac rfl _ (xgs (b:=false) _ rfl true rfl rfl) ?_;refine X28 ?_;revert w HL
 exact Y.1):q:=Jx x Y
theorem Xj2(Y:J p q:=by
 intro Y;refine Xiw ?_;refine xaa rfl _ (xaz sl42 (.tmp 43) _ rfl ad rest.n rest.c 0 .i64 HSV.out rfl hr0) ?_;refine X6 ?_;refine xaa rfl _ (xa5 xl0 _ rfl _ b.cells rfl (hbrd _ _ HL) (by omega) (Brv.len _)) ?_;refine X6 ?_;refine xah zr124 rfl rfl HL ?_;intro g14 w HL;refine X6 ?_;refine xbo xl0 rfl _ _ rfl HL 0 _ _ _ _ rfl rfl rfl (Brv.len _) (Brv.len _) (Brv.one _) ?_;refine X34 ?_;clear HL;intro w HL;revert g14 w HL
 exact Y.1):q:=Jx x Y
theorem Xj3(Y:J p q:=by
 intro Y;refine X30 ?_;refine Xiv ?_;refine xaa rfl _ (xai sc42 HL _ rfl _ _ rfl _ _ _ (.tail _ (.tail _ (.tail _ (.head _)))) (xn6 _ _ _)) ?_;refine X6 ?_;refine xaa rfl _ (xbt sl42 (.tmp 50) _ rfl rest.A rest.n rest.c 1 .i64 rfl rfl hr0) ?_;refine X16 ?_;refine Xiv ?_
 exact Y.1):q:=Jx x Y
theorem Xj4(Y:J p q:=by
 intro Y;refine X2t ?_;intro w HL;have HT:=hB.tail;revert w HL HT
 exact Y.1):q:=Jx x Y
theorem Xj5(Y:J p q:=by
 intro Y;refine X4v ?_;refine X4c ?_;intro w HL;revert w HL
 exact Y.1):q:=Jx x Y
theorem Xj6(Y:J p q:=by
 intro Y;refine Xc ?_;refine bodyPost_ret (xay rfl ag23 _ _ g12 23 _ rfl (HL.blk (.tail _ (.head _))) (D32.cl _)) rfl ?_
 exact Y.1):q:=Jx x Y
theorem Xj7(Y:J p q:=by
 intro Y;refine xaa rfl _ (xbq (b:=true) _ _ rfl _ _ rfl rfl k5) ?_
 exact Y.1):q:=Jx x Y
theorem Xj8(Y:J p q:=by
 intro Y;refine xaa rfl _ (xgs (b:=false) _ rfl true rfl rfl) ?_
 exact Y.1):q:=Jx x Y
theorem Xj9(Y:J p q:=by
 intro Y;refine xaa rfl _ (xbq (b:=false) _ _ rfl _ _ rfl rfl k5) ?_
 exact Y.1):q:=Jx x Y
theorem Xja(Y:J p q:=by
 intro Y;refine xaa rfl _ (xgs (b:=true) _ rfl false rfl rfl) ?_
 exact Y.1):q:=Jx x Y
theorem Xjb(Y:J p q:=by
 intro Y;refine xaa rfl _ (xao (b:=true) _ _ rfl _ _ rfl rfl k11) ?_;refine X1a ?_
 exact Y.1):q:=Jx x Y
theorem Xjc(Y:J p q:=by
 intro Y;(with_reducible refine(end_any gr gw rest1 n xs Gs M b lo hi _ hW HXL.out hlh (by omega) (Loc.lend (Loc.inY [_,_,_] HL))).mono ?_)
 exact Y.1):q:=Jx x Y
theorem Xjd(Y:J p q:=by
 intro Y;refine xaa rfl _ (xav ag24 HL _ rfl _ _ rfl _ _ _ (.head _) (Brv.g_key _) (D32.cl _)) ?_
 exact Y.1):q:=Jx x Y
theorem Xje(Y:J p q:=by
 intro Y;refine xaa rfl _ (xav ag23 HL _ rfl _ _ rfl _ _ _ (.head _) (Brv.g_val _) (D32.cl _)) ?_
 exact Y.1):q:=Jx x Y
theorem Xjf(Y:J p q:=by
 intro Y;refine xaa rfl _ (xao (b:=false) _ _ rfl _ _ rfl rfl k11) ?_
 exact Y.1):q:=Jx x Y
theorem Xjg(Y:J p q:=by
 intro Y;refine xaa rfl _ (xbn ag23 HL _ rfl _ rfl _ _ (.head _) (D32.cl _)) ?_
 exact Y.1):q:=Jx x Y
theorem Xjh(Y:J p q:=by
 intro Y;refine xaa rfl _ (xbn ag23 HL _ rfl _ rfl _ _ (.tail _ (.tail _ (.head _))) (D32.cl _)) ?_
 exact Y.1):q:=Jx x Y
theorem Xji(Y:J p q:=by
 intro Y;refine X6 ?_;refine xbo ag23 rfl _ _ rfl HL 2 _ _ _ _ rfl rfl rfl (D32.cl _) (D32.cl _) (D32.c1 _) ?_
 exact Y.1):q:=Jx x Y
theorem Xjj(Y:J p q:=by
 intro Y;refine bodyPost_ret (xn5 rfl ag23 _ _ g4 23 _ rfl (HL.blk (.head _)) (D32.cl _)) rfl ?_
 exact Y.1):q:=Jx x Y
theorem Xjk(Y:J p q:=by
 intro Y;refine X6 ?_;refine xac rfl _ (xai sc42 HL _ rfl _ _ rfl _ _ _ (.tail _ (.head _)) rfl) ?_
 exact Y.1):q:=Jx x Y
theorem Xjl(Y:J p q:=by
 intro Y;refine xac rfl _ (xb3 underlying42 _ rfl _ _ _ rfl) ?_
 exact Y.1):q:=Jx x Y
theorem Xjm(Y:J p q:=by
 intro Y;refine xab rfl rfl HL (fun W hW=>xa2 _ _ rfl _ _ _ rfl rfl HI.out (by omega)) ?_;simp only[Act.put,qf,qg,qh]
 exact Y.1):q:=Jx x Y
theorem Xjn(Y:J p q:=by
 intro Y;refine xab rfl rfl HL (fun W hW=>xa5 ag24 _ rfl _ ka.c rfl (hW.rdO HE1.out) (by omega) (D32.cl _)) ?_
 exact Y.1):q:=Jx x Y
theorem Xjo(Y:J p q:=by
 intro Y;refine xab rfl rfl HL (fun W hW=>xaz sl26 (.tmp 33) _ rfl ad n c i1 .i64 HSV.out rfl hlt) ?_
 exact Y.1):q:=Jx x Y
theorem Xjp(Y:J p q:=by
 intro Y;refine xab rfl rfl HL (fun W hW=>xa5 ag24 _ rfl _ kb.c rfl (hW.rdO HE2.out) (by omega) (D32.cl _)) ?_
 exact Y.1):q:=Jx x Y
theorem Xjq(Y:J p q:=by
 intro Y;refine xab rfl rfl HL (fun W hW=>xce _ _ rfl _ _ rfl rfl k10) ?_;refine Xb ?_
 exact Y.1):q:=Jx x Y
theorem Xjr(Y:J p q:=by
 intro Y;refine xab rfl rfl HL (fun W hW=>xbp bs199 _ rfl _ (by exact bd199_17 ps tagE ⟨aS gw,n,n⟩)) ?_
 exact Y.1):q:=Jx x Y
theorem Xjs(Y:J p q:=by
 intro Y;refine xac rfl _ (xai sc42 HL _ rfl _ _ rfl _ _ _ (.tail _ (.tail _ (.tail _ (.head _)))) (xn6 _ _ _)) ?_
 exact Y.1):q:=Jx x Y
theorem Xjt(Y:J p q:=by
 intro Y;refine bodyPost_ret (xn5 rfl ag23 _ _ g4 23 _ rfl (HL.blk (.tail _ (.head _))) (D32.cl _)) rfl ?_
 exact Y.1):q:=Jx x Y
theorem Xju(Y:J p q:=by
 intro Y;refine xaa rfl _ (xai sc128 HL _ rfl _ _ rfl _ _ _ (.tail _ (.tail _ (.tail _ (.head _)))) (xrg _ _ _)) ?_
 exact Y.1):q:=Jx x Y
theorem Xjv(Y:J p q:=by
 intro Y;refine xaa rfl _ (xbn ag44 HL _ rfl _ rfl _ _ (.tail _ (.head _)) rfl) ?_
 exact Y.1):q:=Jx x Y
theorem Xjw(Y:J p q:=by
 intro Y;(with_reducible refine(xrp A n c ks ps bs _ (HKS.out.below HL.below) (HBS.out.below HL.below) hnn).mono ?_)
 exact Y.1):q:=Jx x Y
theorem Xjx(Y:J p q:=by
 intro Y;refine X12 ?_;refine xaa rfl _ (xam underlying26 _ rfl Sv.nil 0 rfl rfl) ?_
 exact Y.1):q:=Jx x Y
theorem Xjy(Y:J p q:=by
 intro Y;refine xaa rfl _ (xam underlying26 _ rfl ⟨aS g,n,c⟩ n rfl rfl) ?_
 exact Y.1):q:=Jx x Y
theorem Xjz(Y:J p q:=by
 intro Y;refine X12 ?_;refine xaa rfl _ (xa6 _ _ rfl _ _ _ rfl rfl HKB.out (by omega)) ?_
 exact Y.1):q:=Jx x Y
theorem Xk0(Y:J p q:=by
 intro Y;refine xaa rfl _ (xdi sc25 _ rfl (ad.add (i*1)) (Sv.v s) rfl HRD.out) ?_
 exact Y.1):q:=Jx x Y
theorem Xk1(Y:J p q:=by
 intro Y;refine xaa rfl _ (xbq (b:=false) _ _ rfl _ _ rfl rfl k10) ?_;refine X1z ?_
 exact Y.1):q:=Jx x Y
theorem Xk2(Y:J p q:=by
 intro Y;refine X1w ?_;(with_reducible refine(CK.out).mono ?_)
 exact Y.1):q:=Jx x Y
theorem Xk3(Y:J p q:=by
 intro Y;have HGN:Hid ((bs++[(⟨3,D32.z,D32.z,dg⟩:Brv)]).flatMap Brv.cells=bs.flatMap Brv.cells++(⟨3,D32.z,D32.z,dg⟩:Brv).cells):=hZ (by simp);revert HGN
 exact Y.1):q:=Jx x Y
theorem Xk4(Y:J p q:=by
 intro Y;refine xaa rfl _ (xao (b:=false) _ _ rfl _ _ rfl rfl kz) ?_
 exact Y.1):q:=Jx x Y
theorem Xk5(Y:J p q:=by
 intro Y;refine X1w ?_;(with_reducible refine(CR.out).mono ?_)
 exact Y.1):q:=Jx x Y
theorem Xk6(Y:J p q:=by
 intro Y;refine bodyPost_ret (xb8 rfl ag23 _ _ g6 23 _ rfl (HL.blk (.head _)) (D32.cl _)) rfl ?_
 exact Y.1):q:=Jx x Y
theorem Xk7(Y:J p q:=by
 intro Y;refine xab rfl rfl HL (fun W hW=>xbw sl26 _ _ rfl A m c pn .i64 rfl rfl HPC.out.1) ?_
 exact Y.1):q:=Jx x Y
theorem Xk8(Y:J p q:=by
 intro Y;refine xab rfl rfl HL (fun W hW=>xbw sl29 _ _ rfl B m c2 pn .i64 rfl rfl HPC.out.2) ?_
 exact Y.1):q:=Jx x Y
theorem Xk9(Y:J p q:=by
 intro Y;refine xab rfl rfl HL (fun W hW=>xbt sl26 _ _ rfl A m c pn .i64 rfl rfl HPN.out) ?_
 exact Y.1):q:=Jx x Y
theorem Xka(Y:J p q:=by
 intro Y;refine xab rfl rfl HL (fun W hW=>xbt sl29 _ _ rfl B m c2 pn .i64 rfl rfl HPN.out) ?_
 exact Y.1):q:=Jx x Y
theorem Xkb(Y:J p q:=by
 intro Y;refine X7b ?_;(with_reducible refine(xgp _ da db).mono ?_)
 exact Y.1):q:=Jx x Y
theorem Xkc(Y:J p q:=by
 intro Y;refine xab rfl rfl HL (fun W hW=>xam underlying26 _ rfl ⟨A,m,c⟩ m rfl rfl) ?_
 exact Y.1):q:=Jx x Y
theorem Xkd(Y:J p q:=by
 intro Y;refine xab rfl rfl HL (fun W hW=>xax (b:=true) _ _ rfl _ _ rfl rfl k3) ?_;refine X95 ?_
 exact Y.1):q:=Jx x Y
theorem Xke(Y:J p q:=by
 intro Y;refine xab rfl rfl HL (fun W hW=>xa5 ag24 _ rfl (ad.add (i*32)) x.c rfl (hW.rdO HRD.out) (by decide) (D32.cl _)) ?_
 exact Y.1):q:=Jx x Y
theorem Xkf(Y:J p q:=by
 intro Y;refine xab rfl rfl HL (fun W hW=>xav ag24 hW _ rfl g5 1 rfl 124 _ _ (.head _) HB.out.1 (D32.cl _)) ?_
 exact Y.1):q:=Jx x Y
theorem Xkg(Y:J p q:=by
 intro Y;refine xab rfl rfl HL (fun W hW=>xax (b:=false) _ _ rfl _ _ rfl rfl k3) ?_;refine Xb4 ?_
 exact Y.1):q:=Jx x Y
theorem Xkh(Y:J p q:=by
 intro Y;have HL:=HX.drop [(g5,124,b)] (by simp);revert HL
 exact Y.1):q:=Jx x Y
theorem Xki(Y:J p q:=by
 intro Y;refine Xkh ?_;intro HL;refine X3x ?_;revert HL
 exact Y.1):q:=Jx x Y
theorem Xkj(Y:J p q:=by
 intro Y;refine Xkh ?_;intro HL;refine X3y ?_;intro K hK;revert HL K hK
 exact Y.1):q:=Jx x Y
theorem Xkk(Y:J p q:=by
 intro Y;have hrk:Rd _ (aS g49) k.c:=Rd.of_blk0 (es:=[]) (by simpa using HX.blk (g:=g49) (t:=24) (cs:=k.c) (by simp));revert hrk
 exact Y.1):q:=Jx x Y
theorem Xkl(Y:J p q:=by
 intro Y;have hrk:Rd _ (aS g58) kv.c:=Rd.of_blk0 (es:=[]) (by simpa using HX.blk (g:=g58) (t:=23) (cs:=kv.c) (by simp));revert hrk
 exact Y.1):q:=Jx x Y
theorem Xkm(Y:J p q:=by
 intro Y;have HL:=HX.drop [] (List.nil_sublist _);revert HL
 exact Y.1):q:=Jx x Y
theorem Xkn(Y:J p q:=by
 intro Y;obtain⟨ad,hA,hrd0⟩:=hB.at_ 0 (by simp);have HR:Hid (Rd v (some (ad.add (0*97))) (b).cells):=hZ hrd0;revert ad hA hrd0 HR
 exact Y.1):q:=Jx x Y
theorem Xko(Y:J p q:=by
 intro Y;refine rB (Loc.P HL) [] [5,6] [0,1,2,3,4,5,6,7] 0 ?_
 exact Y.1):q:=Jx x Y
theorem Xkp(Y:J p q:=by
 intro Y;refine xab rfl rfl HL (fun W hW=>xaz sl42 (.tmp 17) _ rfl ad n cc 0 .i64 HSV.out rfl hN) ?_
 exact Y.1):q:=Jx x Y
theorem Xkq(Y:J p q:=by
 intro Y;refine xab rfl rfl HL (fun W hW=>xa5 xl0 _ rfl (ad.add (0*97)) (b).cells rfl (HR.out.below (HV.out.trans (hW.below.mono HV.out.size))) (by decide) (Brv.len _)) ?_
 exact Y.1):q:=Jx x Y
theorem Xkr(Y:J p q:=by
 intro Y;refine xab rfl rfl HL (fun W hW=>xbt sl42 (.tmp 20) _ rfl (some ad) n cc 1 .i64 HSV.out rfl hN) ?_
 exact Y.1):q:=Jx x Y
theorem Xks(Y:J p q:=by
 intro Y;refine Xh ?_;intro K hK;refine xcj zr124 rfl HL ?_;revert K hK
 exact Y.1):q:=Jx x Y
theorem Xkt(Y:J p q:=by
 intro Y;have HL:Loc w0 (Old w0) [(g8,23,D32.z.c)] w:=HX.drop _ (sB _ _);revert HL
 exact Y.1):q:=Jx x Y
theorem Xku(Y:J p q:=by
 intro Y;refine xe4 xl0 _ _ rfl HX 0 g10 124 _ _ rfl rfl rfl (Brv.len _) (Brv.len _) (Brv.one _) ?_
 exact Y.1):q:=Jx x Y
theorem Xkv(Y:J p q:=by
 intro Y;refine bodyPost_ret (xay rfl ag23 _ _ g8 23 _ rfl (HL.blk (.tail _ (.head _))) (D32.cl _)) rfl ?_
 exact Y.1):q:=Jx x Y
theorem Xkw(Y:J p q:=by
 intro Y;refine Xfk ?_;refine X1a ?_
 exact Y.1):q:=Jx x Y
theorem Xkx(Y:J p q:=by
 intro Y;refine xad cf141 rfl _ rfl ?_;simp only[qk,ql,Act.eval,qa,qb,qc,qd,qe]
 exact Y.1):q:=Jx x Y
theorem Xky(Y:J p q:=by
 intro Y;have HL:Loc w0 (Old w0) [(g10,124,b2),(g8,23,D32.z.c)] w:=HX.drop _ (sB _ _);revert HL
 exact Y.1):q:=Jx x Y
theorem Xkz(Y:J p q:=by
 intro Y;have HL:Loc w0 (Old w0) [(g15,23,da.c),(g10,124,b2),(g8,23,D32.z.c)] w:=HX.drop _ (sB _ _);revert HL
 exact Y.1):q:=Jx x Y
theorem Xl0(Y:J p q:=by
 intro Y;refine xaa rfl _ (xav ag23 HL _ rfl g15 0 rfl 23 _ _ (.tail _ (.head _)) (D32.take_ _) (D32.cl _)) ?_
 exact Y.1):q:=Jx x Y
theorem Xl1(Y:J p q:=by
 intro Y;refine xaa rfl _ (xav ag23 HL _ rfl g16 0 rfl 23 _ _ (.head _) (D32.take_ _) (D32.cl _)) ?_
 exact Y.1):q:=Jx x Y
theorem Xl2(Y:J p q:=by
 intro Y;refine X15 ?_;refine xbo ag23 rfl _ _ rfl HL 3 g8 23 _ _ rfl rfl rfl (D32.cl _) (D32.cl _) (D32.c1 _) ?_
 exact Y.1):q:=Jx x Y
theorem Xl3(Y:J p q:=by
 intro Y;refine bodyPost_ret (xay rfl ag23 _ _ g8 23 _ rfl (HL.blk (.tail _ (.tail _ (.tail _ (.head _))))) (D32.cl _)) rfl ?_
 exact Y.1):q:=Jx x Y
theorem Xl4(Y:J p q:=by
 intro Y;refine X12 ?_;refine xaa rfl _ (xam underlying50 _ rfl vv m rfl HVN.out) ?_
 exact Y.1):q:=Jx x Y
theorem Xl5(Y:J p q:=by
 intro Y;refine X19 ?_;refine xaa rfl _ (xam underlying50 _ rfl ⟨Av,nv,cv⟩ nv rfl rfl) ?_
 exact Y.1):q:=Jx x Y
theorem Xl6(Y:J p q:=by
 intro Y;refine xac rfl _ (xa9 (b:=false) _ _ rfl _ _ rfl rfl rfl) ?_
 exact Y.1):q:=Jx x Y
theorem Xl7(Y:J p q:=by
 intro Y;refine xaa rfl _ (xam underlying71 _ rfl ⟨At,nt,ct⟩ nt rfl rfl) ?_
 exact Y.1):q:=Jx x Y
theorem Xl8(Y:J p q:=by
 intro Y;refine xbj (xav ag61 HX _ rfl gx (bi*33) rfl 61 _ _ (.head _) HPB.out (Par.len _)) ?_;refine X3x ?_
 exact Y.1):q:=Jx x Y
theorem Xl9(Y:J p q:=by
 intro Y;refine xbj (xav ag61 HX _ rfl gx (ai*33) rfl 61 _ _ (.head _) HPA.out (Par.len _)) ?_;refine X3x ?_
 exact Y.1):q:=Jx x Y
theorem Xla(Y:J p q:=by
 intro Y;refine xab rfl rfl HL (fun W hW=>xap sl55 (.tmp 141) _ rfl gx m cap ai .i64 HS19.out rfl hal) ?_
 exact Y.1):q:=Jx x Y
theorem Xlb(Y:J p q:=by
 intro Y;refine xfg ag61 _ _ rfl HX 0 gx (ai*33) 61 _ xb.cells _ rfl rfl rfl (Par.len _) HCL.out.1 (Par.one _) HQ1.out ?_
 exact Y.1):q:=Jx x Y
theorem Xlc(Y:J p q:=by
 intro Y;refine xfg ag61 _ _ rfl HX 0 gx (bi*33) 61 _ xa.cells _ rfl rfl rfl (Par.len _) HCL.out.2 (Par.one _) HQ2.out ?_
 exact Y.1):q:=Jx x Y
end Go.Proofs.YtkjjdgnkelchfaaGreat
