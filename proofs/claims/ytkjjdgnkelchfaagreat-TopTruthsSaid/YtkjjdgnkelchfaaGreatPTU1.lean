import Derived.Test.YtkjjdgnkelchfaaGreatRows
import Derived.JoinedOf
import Derived.KernelRfl
import Derived.WalkKit
import Derived.OwnWalk
import Derived.Below
import Derived.Laws.CopyOwn
import Derived.Laws.BytesString
import Derived.Laws.OwnMore
import Derived.Lib.Hide
import Derived.Deep.Draws
import Derived.ProofKit
import Derived.OpenShut
import Derived.SizedLaws
import Derived.Test.YtkjjdgnkelchfaaGreatProg
import Derived.OrdersHeld
import Derived.Outline
import Derived.LoopTactic
import Derived.IntWalk
import Derived.Laws.BitsAllLaws
import Derived.Lib.Bytealg
import Derived.Deep.MidRow
import Derived.Laws.Cover3
import Derived.Laws.ResultCell
import Derived.Lib.Strings
import Derived.Lib.Slices
import Derived.Lib.Small
import Derived.Lib.Walk
import Derived.Lib.BitFns
import Derived.Stop.BytesEq
import Derived.Deep.Cut
import Derived.Deep.CutRange
import Derived.Lib.QuoteBits
import Derived.Deep.AppendLies
import Derived.Great.BuildSlice
import Derived.Great.FillDense
import Derived.Deep.Matrix
import Derived.LoopN
import Derived.Laws.StructEq
import Derived.Deep.Slices
import Derived.WideMake
import Derived.Lib.SlBytesConst
import Derived.ChangeOld
import Derived.ShutString
set_option linter.unusedSimpArgs false
set_option linter.unusedVariables false
set_option maxRecDepth 100000
set_option maxHeartbeats 16000000
namespace Go.Proofs.YtkjjdgnkelchfaaGreat
theorem qa {α : Type _} {xs : Array α} {i : Nat} {d : α} : xs.getD i d = xs[i]?.getD d := Array.getD_eq_getD_getElem?
theorem qb {α : Type _} {xs : List α} {i : Nat} : xs.toArray[i]? = xs[i]? := List.getElem?_toArray
theorem qc {α : Type _} {a : α} {i : Nat} {l : List α} : (a :: l)[i + 1]? = l[i]? := List.getElem?_cons_succ
theorem qd {α : Type _} {a : α} {l : List α} : (a :: l)[0]? = some a := List.getElem?_cons_zero
theorem qe {α : Type _} {a b : α} : (some a).getD b = a := Option.getD_some
theorem qf {α : Type _} (l : List α) (i : Nat) (a : α) : l.toArray.setIfInBounds i a = (l.set i a).toArray := List.setIfInBounds_toArray l i a
theorem qg {α : Type _} {x : α} {xs : List α} {a : α} : (x :: xs).set 0 a = a :: xs := List.set_cons_zero
theorem qh {α : Type _} {x : α} {xs : List α} {i : Nat} {a : α} : (x :: xs).set (i + 1) a = x :: xs.set i a := List.set_cons_succ
theorem qi {α : Type _} {x : α} {xs : List α} {d : α} : (x :: xs).getD 0 d = x := List.getD_cons_zero
theorem qj {α : Type _} {x : α} {xs : List α} {n : Nat} {d : α} : (x :: xs).getD (n + 1) d = xs.getD n d := List.getD_cons_succ
theorem qk {α : Type _} {β : Type _} {f : α → β} {a : α} {l : List α} : List.map f (a :: l) = f a :: List.map f l := List.map_cons
theorem ql {α : Type _} {β : Type _} {f : α → β} : List.map f [] = [] := List.map_nil
theorem qm {α : Type _} {a : α} {xs ys : List α} : a :: xs ++ ys = a :: (xs ++ ys) := List.cons_append
theorem qn {α : Type _} (xs : List α) : [] ++ xs = xs := List.nil_append xs
theorem qo {α : Type _} (xs ys zs : List α) : xs ++ ys ++ zs = xs ++ (ys ++ zs) := List.append_assoc xs ys zs
theorem qp {α : Type _} {xs ys : List α} : (xs ++ ys).length = xs.length + ys.length := List.length_append
theorem qr {α : Type _} {a : α} {xs : List α} : (a :: xs).length = xs.length + 1 := List.length_cons
theorem qs {α : Type _} : ([] : List α).length = 0 := List.length_nil
theorem qt {α : Type _} {x : α} {l : List α} : [x] ++ l = x :: l := List.singleton_append
theorem qu {α : Type _} (xs : List α) : xs ++ [] = xs := List.append_nil xs
theorem eW (w : World) : ∃ u, u = w := ⟨w, rfl⟩
theorem hZ {p : Prop} (h : p) : RowKit.Hid p := Lib.hid h
theorem sA {α : Type _} (a b : List α) : List.Sublist b (a ++ b) := List.sublist_append_right a b
theorem sB {α : Type _} (a : α) (l : List α) : List.Sublist l (a :: l) := List.sublist_cons_self a l
theorem nB {α : Type _} [BEq α] [LawfulBEq α] {a b : α} (h : a ≠ b) : (a == b) = false := beq_eq_false_iff_ne.2 h
structure Bx (p : Prop) : Prop where
  a : p
variable {p q : Prop}
theorem X1 (x : p) (Y : Bx p → q := by
 intro Y
 simp only [ho, resolve, invoke, builtin, Sem.run_bind, Sem.run_pure, Result.andThen_ok, List.map_toArray, qk, ql, hs, hx, hrun]
 exact Y.1) : q := Y ⟨x⟩
theorem X2 (x : p) (Y : Bx p → q := by
 intro Y
 simp only [pick, qk, ql, qi, qj]
 exact Y.1) : q := Y ⟨x⟩
theorem X3 (x : p) (Y : Bx p → q := by
 intro Y
 have hS : (Below w0.heap.size w0) _ := (Below.refl _ _).drew
 revert hS
 exact Y.1) : q := Y ⟨x⟩
theorem X4 (x : p) (Y : Bx p → q := by
 intro Y
 refine xac (v := ?_) rfl rfl hS ?_ ?_; rotate_left; (· intro W hW; (try subst hW); go_simp; try with_reducible rfl)
 exact Y.1) : q := Y ⟨x⟩
theorem X5 (x : p) (Y : Bx p → q := by
 intro Y
 simp only [Act.put, qf, qg, qh]
 with_reducible exact Y.1) : q := Y ⟨x⟩
theorem X6 (x : p) (Y : Bx p → q := by
 intro Y
 refine X4 ?_
 simp only [Act.put, qf, qg, qh]
 exact Y.1) : q := Y ⟨x⟩
theorem X7 (x : p) (Y : Bx p → q := by
 intro Y
 refine X6 ?_
 refine X6 ?_
 exact Y.1) : q := Y ⟨x⟩
theorem X8 (x : p) (Y : Bx p → q := by
 intro Y
 have hS1 : Below w0.heap.size w0 (w0.alloc (.cells #[.slice (some ⟨w.heap.size, 0, none⟩) 32 32, .slice (some ⟨w.heap.size + 1, 0, none⟩) 32 32] 25)).drew := ((Below.refl _ _).alloc (Nat.le_refl _) _).drew
 revert hS1
 exact Y.1) : q := Y ⟨x⟩
theorem X9 (x : p) (Y : Bx p → q := by
 intro Y
 refine hK _ _ (fun _ => hS1) ?_
 exact Y.1) : q := Y ⟨x⟩
theorem Xa (x : p) (Y : Bx p → q := by
 intro Y
 refine hK _ _ (fun _ => hS2) ?_
 exact Y.1) : q := Y ⟨x⟩
theorem Xb (x : p) (Y : Bx p → q := by
 intro Y
 refine xac (v := ?_) rfl rfl hS2 ?_ ?_; rotate_left; (· intro W hW; (try subst hW); go_simp; try with_reducible rfl)
 exact Y.1) : q := Y ⟨x⟩
theorem Xc (x : p) (Y : Bx p → q := by
 intro Y
 refine rg_done (by kernel_rfl) ?_
 exact Y.1) : q := Y ⟨x⟩
theorem Xd (x : p) (Y : Bx p → q := by
 intro Y
 refine X5 ?_
 refine Xc ?_
 exact Y.1) : q := Y ⟨x⟩
theorem Xe (x : p) (Y : Bx p → q := by
 intro Y
 refine X5 ?_
 refine X6 ?_
 exact Y.1) : q := Y ⟨x⟩
theorem Xf (x : p) (Y : Bx p → q := by
 intro Y
 (try simp only [Exit.inBlock, Exit.then])
 exact Y.1) : q := Y ⟨x⟩
theorem Xg (x : p) (Y : Bx p → q := by
 intro Y
 refine xac rfl rfl hS (fun W hW => xe2 _ _ rfl _ _ (((4 * k : Nat) : Int)) rfl rfl (by omega) (by omega)) ?_
 exact Y.1) : q := Y ⟨x⟩
theorem Xh (x : p) (Y : Bx p → q := by
 intro Y
 refine xac rfl rfl hS (fun W hW => xca ia97 _ _ rfl _ _ _ rfl rfl (by omega)) ?_
 exact Y.1) : q := Y ⟨x⟩
theorem Xi (x : p) (Y : Bx p → q := by
 intro Y
 refine xac rfl rfl hS (fun W hW => xca ia176 _ _ rfl _ _ _ rfl rfl (by omega)) ?_
 exact Y.1) : q := Y ⟨x⟩
theorem Xj (x : p) (Y : Bx p → q := by
 intro Y
 refine xb7 rfl rfl ?_
 intro K hK
 revert K hK
 exact Y.1) : q := Y ⟨x⟩
theorem Xk (x : p) (Y : Bx p → q := by
 intro Y
 refine X5 ?_
 refine Xj ?_; intro K hK
 revert K hK
 exact Y.1) : q := Y ⟨x⟩
theorem Xl (x : p) (Y : Bx p → q := by
 intro Y
 refine hK _ _ (fun h => by cases h) ?_
 exact Y.1) : q := Y ⟨x⟩
theorem Xm (x : p) (Y : Bx p → q := by
 intro Y
 refine X5 ?_
 refine Xb ?_
 exact Y.1) : q := Y ⟨x⟩
theorem Xn (x : p) (Y : Bx p → q := by
 intro Y
 refine Xm ?_
 simp only [Act.put, qf, qg, qh]
 exact Y.1) : q := Y ⟨x⟩
theorem Xo (x : p) (Y : Bx p → q := by
 intro Y
 refine xac rfl rfl hS2 (fun W hW => xca ia176 _ _ rfl _ _ _ rfl rfl (by omega)) ?_
 exact Y.1) : q := Y ⟨x⟩
theorem Xp (x : p) (Y : Bx p → q := by
 intro Y
 refine xac rfl rfl hS2 (fun W hW => xe0 _ _ rfl _ _ rfl rfl) ?_
 exact Y.1) : q := Y ⟨x⟩
theorem Xq (x : p) (Y : Bx p → q := by
 intro Y
 refine xac (v := ?_) rfl rfl hS3 ?_ ?_; rotate_left; (· intro W hW; (try subst hW); go_simp; try with_reducible rfl)
 exact Y.1) : q := Y ⟨x⟩
theorem Xr (x : p) (Y : Bx p → q := by
 intro Y
 refine X5 ?_
 refine xac rfl rfl hS3 (fun W hW => xca ia96 _ _ rfl _ 1 _ rfl rfl (by decide)) ?_
 exact Y.1) : q := Y ⟨x⟩
theorem Xs (x : p) (Y : Bx p → q := by
 intro Y
 refine X5 ?_
 refine xac rfl rfl hS3 (fun W hW => xca ia96 _ _ rfl _ 2 _ rfl rfl (by decide)) ?_
 exact Y.1) : q := Y ⟨x⟩
theorem Xt (x : p) (Y : Bx p → q := by
 intro Y
 refine xac (v := ?_) rfl rfl hS4 ?_ ?_; rotate_left; (· intro W hW; (try subst hW); go_simp; try with_reducible rfl)
 exact Y.1) : q := Y ⟨x⟩
theorem Xu (x : p) (Y : Bx p → q := by
 intro Y
 refine xac rfl rfl hS4 (fun W hW => xca ia96 _ _ rfl _ _ _ rfl rfl (by omega)) ?_
 exact Y.1) : q := Y ⟨x⟩
theorem Xv (x : p) (Y : Bx p → q := by
 intro Y
 refine wp_region_lit ?_
 exact Y.1) : q := Y ⟨x⟩
theorem Xw (x : p) (Y : Bx p → q := by
 intro Y
 (try simp only [Act.put, qf, qg, qh])
 exact Y.1) : q := Y ⟨x⟩
theorem Xx (x : p) (Y : Bx p → q := by
 intro Y
 refine hK _ _ ?_
 (try simp only [Act.put, qf, qg, qh])
 exact Y.1) : q := Y ⟨x⟩
theorem Xy (x : p) (Y : Bx p → q := by
 intro Y
 simp only [Act.put, Act.eval, qa, qb, qc, qd, qe, qf, qg, qh]
 with_reducible exact Y.1) : q := Y ⟨x⟩
theorem Xz (x : p) (Y : Bx p → q := by
 intro Y
 refine xaa rfl _ (xiq _ rfl) ?_
 simp only [Act.put, Act.eval, qa, qb, qc, qd, qe, qf, qg, qh]
 exact Y.1) : q := Y ⟨x⟩
theorem X10 (x : p) (Y : Bx p → q := by
 intro Y
 refine wpList_nil ?_
 exact Y.1) : q := Y ⟨x⟩
theorem X11 (x : p) (Y : Bx p → q := by
 intro Y
 refine Xz ?_
 refine X10 ?_
 exact Y.1) : q := Y ⟨x⟩
theorem X12 (x : p) (Y : Bx p → q := by
 intro Y
 refine Xw ?_
 refine X11 ?_
 exact Y.1) : q := Y ⟨x⟩
theorem X13 (x : p) (Y : Bx p → q := by
 intro Y
 refine xaa rfl _ (xh5 _ rfl) ?_
 simp only [Act.put, Act.eval, qa, qb, qc, qd, qe, qf, qg, qh]
 with_reducible exact Y.1) : q := Y ⟨x⟩
theorem X14 (x : p) (Y : Bx p → q := by
 intro Y
 refine Xv ?_
 refine X13 ?_
 exact Y.1) : q := Y ⟨x⟩
theorem X15 (x : p) (Y : Bx p → q := by
 intro Y
 refine xaa rfl _ (xeg _ rfl _ rfl) ?_
 simp only [Act.put, qf, qg, qh]
 exact Y.1) : q := Y ⟨x⟩
theorem X16 (x : p) (Y : Bx p → q := by
 intro Y
 refine X14 ?_
 refine X15 ?_
 exact Y.1) : q := Y ⟨x⟩
theorem X17 (x : p) (Y : Bx p → q := by
 intro Y
 refine X5 ?_
 refine X13 ?_
 with_reducible exact Y.1) : q := Y ⟨x⟩
theorem X18 (x : p) (Y : Bx p → q := by
 intro Y
 refine X5 ?_
 refine X15 ?_
 exact Y.1) : q := Y ⟨x⟩
theorem X19 (x : p) (Y : Bx p → q := by
 intro Y
 refine Xw ?_
 refine X10 ?_
 exact Y.1) : q := Y ⟨x⟩
theorem X1a (x : p) (Y : Bx p → q := by
 intro Y
 refine xac rfl rfl hS (fun W hW => xeg _ rfl _ rfl) ?_
 exact Y.1) : q := Y ⟨x⟩
theorem X1b (x : p) (Y : Bx p → q := by
 intro Y
 refine X14 ?_
 refine X13 ?_
 with_reducible exact Y.1) : q := Y ⟨x⟩
theorem X1c (x : p) (Y : Bx p → q := by
 intro Y
 refine X5 ?_
 refine X11 ?_
 exact Y.1) : q := Y ⟨x⟩
theorem X1d (x : p) (Y : Bx p → q := by
 intro Y
 refine xac (v := ?_) rfl rfl hS0 ?_ ?_; rotate_left; (· intro W hW; (try subst hW); go_simp; try with_reducible rfl)
 exact Y.1) : q := Y ⟨x⟩
theorem X1e (x : p) (Y : Bx p → q := by
 intro Y
 refine xbs (xeg _ rfl _ rfl) ?_
 exact Y.1) : q := Y ⟨x⟩
theorem X1f (x : p) (Y : Bx p → q := by
 intro Y
 have hbz : Blk (w.alloc (.cells (bvs (zb 32)).toArray 23)) w.heap.size 23 (bvs (zb 32)) := Blk.new _ _ _
 revert hbz
 exact Y.1) : q := Y ⟨x⟩
theorem X1g (x : p) (Y : Bx p → q := by
 intro Y
 have hw0 : Below w.heap.size w (w.alloc (.cells (bvs (zb 32)).toArray 23)) := (Below.refl _ _).alloc (Nat.le_refl _) _
 revert hw0
 exact Y.1) : q := Y ⟨x⟩
theorem X1h (x : p) (Y : Bx p → q := by
 intro Y
 refine X17 ?_
 refine X10 ?_
 exact Y.1) : q := Y ⟨x⟩
theorem X1i (x : p) (Y : Bx p → q := by
 intro Y
 refine Xz ?_
 refine X11 ?_
 exact Y.1) : q := Y ⟨x⟩
theorem X1j (x : p) (Y : Bx p → q := by
 intro Y
 refine X5 ?_
 refine X1i ?_
 exact Y.1) : q := Y ⟨x⟩
theorem X1k (x : p) (Y : Bx p → q := by
 intro Y
 refine Xv ?_
 refine X11 ?_
 exact Y.1) : q := Y ⟨x⟩
theorem X1l (x : p) (Y : Bx p → q := by
 intro Y
 refine xaa rfl ?_ ?_ ?_; rotate_left; (· go_simp; try with_reducible rfl)
 exact Y.1) : q := Y ⟨x⟩
theorem X1m (x : p) (Y : Bx p → q := by
 intro Y
 refine X14 ?_
 refine X1l ?_
 exact Y.1) : q := Y ⟨x⟩
theorem X1n (x : p) (Y : Bx p → q := by
 intro Y
 refine xab rfl _ (xh5 _ rfl) ?_
 simp only [Act.put, Act.eval, qa, qb, qc, qd, qe, qf, qg, qh]
 with_reducible exact Y.1) : q := Y ⟨x⟩
theorem X1o (x : p) (Y : Bx p → q := by
 intro Y
 refine X17 ?_
 refine X1n ?_
 exact Y.1) : q := Y ⟨x⟩
theorem X1p (x : p) (Y : Bx p → q := by
 intro Y
 refine xab rfl _ (xeg _ rfl _ rfl) ?_
 exact Y.1) : q := Y ⟨x⟩
theorem X1q (x : p) (Y : Bx p → q := by
 intro Y
 refine X1o ?_
 refine X1p ?_
 simp only [Act.put, qf, qg, qh]
 exact Y.1) : q := Y ⟨x⟩
theorem X1r (x : p) (Y : Bx p → q := by
 intro Y
 refine X5 ?_
 refine xab rfl _ (xcv sc3 HL _ rfl _ rfl _ (by with_reducible assumption)) ?_
 exact Y.1) : q := Y ⟨x⟩
theorem X1s (x : p) (Y : Bx p → q := by
 intro Y
 refine xab rfl ?_ ?_ ?_; rotate_left; (· go_simp; try with_reducible rfl)
 exact Y.1) : q := Y ⟨x⟩
theorem X1t (x : p) (Y : Bx p → q := by
 intro Y
 refine X5 ?_
 refine X1s ?_
 exact Y.1) : q := Y ⟨x⟩
theorem X1u (x : p) (Y : Bx p → q := by
 intro Y
 refine X1l ?_
 refine X1c ?_
 exact Y.1) : q := Y ⟨x⟩
theorem X1v (x : p) (Y : Bx p → q := by
 intro Y
 refine X5 ?_
 refine X1u ?_
 exact Y.1) : q := Y ⟨x⟩
theorem X1w (x : p) (Y : Bx p → q := by
 intro Y
 refine X1t ?_
 refine X1v ?_
 exact Y.1) : q := Y ⟨x⟩
theorem X1x (x : p) (Y : Bx p → q := by
 intro Y
 refine wpList_plain rfl ?_
 intro K hK
 revert K hK
 exact Y.1) : q := Y ⟨x⟩
theorem X1y (x : p) (Y : Bx p → q := by
 intro Y
 refine X14 ?_
 refine X1x ?_; intro K hK
 revert K hK
 exact Y.1) : q := Y ⟨x⟩
theorem X1z (x : p) (Y : Bx p → q := by
 intro Y
 simp only [qk, ql, Act.eval, qa, qb, qc, qd, qe]
 exact Y.1) : q := Y ⟨x⟩
theorem X20 (x : p) (Y : Bx p → q := by
 intro Y
 refine X1y ?_; intro K hK
 refine xad cf213 rfl _ rfl ?_
 simp only [qk, ql, Act.eval, qa, qb, qc, qd, qe]
 revert K hK
 exact Y.1) : q := Y ⟨x⟩
theorem X21 (x : p) (Y : Bx p → q := by
 intro Y
 refine ⟨_, rfl, hK _ _ ?_⟩
 exact Y.1) : q := Y ⟨x⟩
theorem X22 (x : p) (Y : Bx p → q := by
 intro Y
 refine X5 ?_
 refine X10 ?_
 exact Y.1) : q := Y ⟨x⟩
theorem X23 (x : p) (Y : Bx p → q := by
 intro Y
 refine X21 ?_
 refine X22 ?_
 exact Y.1) : q := Y ⟨x⟩
theorem X24 (x : p) (Y : Bx p → q := by
 intro Y
 refine xaa rfl _ (xaf xm2 _ rfl _ rfl) ?_
 exact Y.1) : q := Y ⟨x⟩
theorem X25 (x : p) (Y : Bx p → q := by
 intro Y
 refine xaa rfl _ (xcv sc3 HL _ rfl _ rfl _ (by with_reducible assumption)) ?_
 exact Y.1) : q := Y ⟨x⟩
theorem X26 (x : p) (Y : Bx p → q := by
 intro Y
 have C := fun u => hZ (xff (w := u) (D := D) (g := g) (σ := σ) (vs := vs) (vf := vf))
 have HL := Loc.start w
 revert C HL
 exact Y.1) : q := Y ⟨x⟩
theorem X27 (x : p) (Y : Bx p → q := by
 intro Y
 refine X5 ?_
 refine X1l ?_
 exact Y.1) : q := Y ⟨x⟩
theorem X28 (x : p) (Y : Bx p → q := by
 intro Y
 refine X1o ?_
 refine X1n ?_
 with_reducible exact Y.1) : q := Y ⟨x⟩
theorem X29 (x : p) (Y : Bx p → q := by
 intro Y
 refine X5 ?_
 refine xab rfl _ (xcv sc316 HL _ rfl _ rfl _ (by with_reducible assumption)) ?_
 exact Y.1) : q := Y ⟨x⟩
theorem X2a (x : p) (Y : Bx p → q := by
 intro Y
 refine X5 ?_
 refine X1n ?_
 with_reducible exact Y.1) : q := Y ⟨x⟩
theorem X2b (x : p) (Y : Bx p → q := by
 intro Y
 refine X1l ?_
 refine X22 ?_
 exact Y.1) : q := Y ⟨x⟩
theorem X2c (x : p) (Y : Bx p → q := by
 intro Y
 refine X5 ?_
 refine X2b ?_
 exact Y.1) : q := Y ⟨x⟩
theorem X2d (x : p) (Y : Bx p → q := by
 intro Y
 refine X1t ?_
 refine X2c ?_
 exact Y.1) : q := Y ⟨x⟩
theorem X2e (x : p) (Y : Bx p → q := by
 intro Y
 refine no_implicit_lambda% (xk9 ?_ ?_); rfl
 simp only [Act.put, qf, qg, qh]
 with_reducible exact Y.1) : q := Y ⟨x⟩
theorem X2f (x : p) (Y : Bx p → q := by
 intro Y
 refine no_implicit_lambda% (X2e ?_)
 refine no_implicit_lambda% (X2e ?_)
 with_reducible exact Y.1) : q := Y ⟨x⟩
theorem X2g (x : p) (Y : Bx p → q := by
 intro Y
 refine X17 ?_
 refine no_implicit_lambda% (X2f ?_)
 with_reducible exact Y.1) : q := Y ⟨x⟩
theorem X2h (x : p) (Y : Bx p → q := by
 intro Y
 refine X2g ?_
 refine no_implicit_lambda% (X2f ?_)
 with_reducible exact Y.1) : q := Y ⟨x⟩
theorem X2i (x : p) (Y : Bx p → q := by
 intro Y
 refine no_implicit_lambda% (X2f ?_)
 refine no_implicit_lambda% (X2f ?_)
 with_reducible exact Y.1) : q := Y ⟨x⟩
theorem X2j (x : p) (Y : Bx p → q := by
 intro Y
 refine X2h ?_
 refine no_implicit_lambda% (X2i ?_)
 with_reducible exact Y.1) : q := Y ⟨x⟩
theorem X2k (x : p) (Y : Bx p → q := by
 intro Y
 refine xah xir rfl rfl HL ?_
 intro g4 w HL
 refine X1c ?_
 revert g4 w HL
 exact Y.1) : q := Y ⟨x⟩
theorem X2l (x : p) (Y : Bx p → q := by
 intro Y
 refine xah xir rfl rfl HL ?_
 intro g6 w HL
 revert g6 w HL
 exact Y.1) : q := Y ⟨x⟩
theorem X2m (x : p) (Y : Bx p → q := by
 intro Y
 with_reducible refine (xff (HH.out.1.below HL.below)).mono ?_
 exact Y.1) : q := Y ⟨x⟩
theorem X2n (x : p) (Y : Bx p → q := by
 intro Y
 refine X1b ?_
 refine X1x ?_; intro K hK
 revert K hK
 exact Y.1) : q := Y ⟨x⟩
theorem X2o (x : p) (Y : Bx p → q := by
 intro Y
 refine xad cf231 rfl _ rfl ?_
 simp only [qk, ql, Act.eval, qa, qb, qc, qd, qe]
 exact Y.1) : q := Y ⟨x⟩
theorem X2p (x : p) (Y : Bx p → q := by
 intro Y
 with_reducible refine (xtl (HH.out.1.below HL.below) n i HH.out.2.1 hi HH.out.2.2).mono ?_
 exact Y.1) : q := Y ⟨x⟩
theorem X2q (x : p) (Y : Bx p → q := by
 intro Y
 refine X21 ?_
 refine X1c ?_
 exact Y.1) : q := Y ⟨x⟩
theorem X2r (x : p) (Y : Bx p → q := by
 intro Y
 refine X14 ?_
 refine X2b ?_
 exact Y.1) : q := Y ⟨x⟩
theorem X2s (x : p) (Y : Bx p → q := by
 intro Y
 refine xa6 xe3 rfl _ _ rfl HL 1 _ _ _ _ rfl rfl rfl (Nd.len _) (Nd.len _) (Nd.one _) ?_
 exact Y.1) : q := Y ⟨x⟩
theorem X2t (x : p) (Y : Bx p → q := by
 intro Y
 intro w HL
 simp only [qg, qh] at HL
 revert w HL
 exact Y.1) : q := Y ⟨x⟩
theorem X2u (x : p) (Y : Bx p → q := by
 intro Y
 refine X2t ?_; intro w HL
 refine X12 ?_
 revert w HL
 exact Y.1) : q := Y ⟨x⟩
theorem X2v (x : p) (Y : Bx p → q := by
 intro Y
 refine bodyPost_ret (xak rfl xe3 _ _ g4 230 _ rfl (HL.blk (.tail _ (.head _))) (Nd.len _)) rfl ?_
 exact Y.1) : q := Y ⟨x⟩
theorem X2w (x : p) (Y : Bx p → q := by
 intro Y
 refine xaa rfl _ (xan xe3 HL _ rfl _ rfl _ _ (.head _) (Nd.len _)) ?_
 exact Y.1) : q := Y ⟨x⟩
theorem X2x (x : p) (Y : Bx p → q := by
 intro Y
 refine xc2 rfl _ rfl HL _ rfl ?_
 intro g5 w HL
 revert g5 w HL
 exact Y.1) : q := Y ⟨x⟩
theorem X2y (x : p) (Y : Bx p → q := by
 intro Y
 refine X2t ?_; intro w HL
 refine X19 ?_
 revert w HL
 exact Y.1) : q := Y ⟨x⟩
theorem X2z (x : p) (Y : Bx p → q := by
 intro Y
 refine xaa rfl _ (xcr xr5 _ rfl _ _ rfl) ?_
 exact Y.1) : q := Y ⟨x⟩
theorem X30 (x : p) (Y : Bx p → q := by
 intro Y
 refine xaa rfl _ (xag sc3 HL _ rfl _ _ rfl _ _ _ (.head _) HG.out) ?_
 exact Y.1) : q := Y ⟨x⟩
theorem X31 (x : p) (Y : Bx p → q := by
 intro Y
 refine X5 ?_
 refine xaw sc3 rfl _ _ rfl HL 0 G _ 340 _ _ _ rfl rfl rfl rfl hfit HSP.out ?_
 exact Y.1) : q := Y ⟨x⟩
theorem X32 (x : p) (Y : Bx p → q := by
 intro Y
 refine Xv ?_
 refine X1i ?_
 exact Y.1) : q := Y ⟨x⟩
theorem X33 (x : p) (Y : Bx p → q := by
 intro Y
 have h := xa5 ([] : List Value) [Value.pointer none] ([] : List Value) [x0] (by first | rfl | (simp only [D32.cl, Brv.len, Cla.len, Clm.len, Nd.len, Nod.len, Par.len, Plc.len, Prv.len, Sai.len, Say.len, Slo.len, Spv.len, Str.len, qr, qs]))
 revert h
 exact Y.1) : q := Y ⟨x⟩
theorem X34 (x : p) (Y : Bx p → q := by
 intro Y
 refine xc2 rfl _ rfl HL _ rfl ?_
 intro g3 w HL
 revert g3 w HL
 exact Y.1) : q := Y ⟨x⟩
theorem X35 (x : p) (Y : Bx p → q := by
 intro Y
 refine Xv ?_
 refine X34 ?_; intro g3 w HL
 revert g3 w HL
 exact Y.1) : q := Y ⟨x⟩
theorem X36 (x : p) (Y : Bx p → q := by
 intro Y
 refine rB (Loc.P HL) [] [] [0, 1, 2, 3, 4, 5, 6, 7, 8] 0 ?_
 exact Y.1) : q := Y ⟨x⟩
theorem X37 (x : p) (Y : Bx p → q := by
 intro Y
 refine X2 ?_
 replace HL := HL.drew
 revert HL
 exact Y.1) : q := Y ⟨x⟩
theorem X38 (x : p) (Y : Bx p → q := by
 intro Y
 refine xac rfl rfl HL (fun W hW => xh5 _ rfl) ?_
 simp only [Act.put, Act.eval, qa, qb, qc, qd, qe, qf, qg, qh]
 exact Y.1) : q := Y ⟨x⟩
theorem X39 (x : p) (Y : Bx p → q := by
 intro Y
 refine X37 ?_; intro HL
 refine X38 ?_
 revert HL
 exact Y.1) : q := Y ⟨x⟩
theorem X3a (x : p) (Y : Bx p → q := by
 intro Y
 refine xac rfl rfl HL (fun W hW => xeg _ rfl _ rfl) ?_
 simp only [Act.put, qf, qg, qh]
 exact Y.1) : q := Y ⟨x⟩
theorem X3b (x : p) (Y : Bx p → q := by
 intro Y
 refine X39 ?_; intro HL
 refine X3a ?_
 revert HL
 exact Y.1) : q := Y ⟨x⟩
theorem X3c (x : p) (Y : Bx p → q := by
 intro Y
 refine xac rfl rfl HL (fun W hW => xag sc3 hW _ rfl _ _ rfl _ _ _ (.tail _ (.tail _ (.head _))) (rfl)) ?_
 exact Y.1) : q := Y ⟨x⟩
theorem X3d (x : p) (Y : Bx p → q := by
 intro Y
 refine X5 ?_
 refine X38 ?_
 exact Y.1) : q := Y ⟨x⟩
theorem X3e (x : p) (Y : Bx p → q := by
 intro Y
 refine xac (v := ?_) rfl rfl HL ?_ ?_; rotate_left; (· intro W hW; go_simp; try with_reducible rfl)
 exact Y.1) : q := Y ⟨x⟩
theorem X3f (x : p) (Y : Bx p → q := by
 intro Y
 refine X5 ?_
 refine X3e ?_
 exact Y.1) : q := Y ⟨x⟩
theorem X3g (x : p) (Y : Bx p → q := by
 intro Y
 refine X3f ?_
 refine Xd ?_
 exact Y.1) : q := Y ⟨x⟩
theorem X3h (x : p) (Y : Bx p → q := by
 intro Y
 refine xaa rfl _ (xbr _ _ rfl _ _ _ rfl rfl HU.out (by omega)) ?_
 refine X18 ?_
 exact Y.1) : q := Y ⟨x⟩
theorem X3i (x : p) (Y : Bx p → q := by
 intro Y
 refine X2t ?_; intro w HL
 (try simp only [Act.eval, qa, qb, qc, qd, qe] at HL)
 (try simp only [Act.put, qf, qg, qh])
 revert w HL
 exact Y.1) : q := Y ⟨x⟩
theorem X3j (x : p) (Y : Bx p → q := by
 intro Y
 refine X3i ?_; intro w HL
 refine X10 ?_
 revert w HL
 exact Y.1) : q := Y ⟨x⟩
theorem X3k (x : p) (Y : Bx p → q := by
 intro Y
 refine xaa rfl _ (xaf fa318_1 _ rfl _ rfl) ?_
 exact Y.1) : q := Y ⟨x⟩
theorem X3l (x : p) (Y : Bx p → q := by
 intro Y
 refine xaa rfl _ (xag sc71 HL _ rfl _ _ rfl _ _ _ (.tail _ (.tail _ (.head _))) (rfl)) ?_
 exact Y.1) : q := Y ⟨x⟩
theorem X3m (x : p) (Y : Bx p → q := by
 intro Y
 refine xaa rfl _ (xa8 Tryz.underlying71 _ rfl _ _ _ rfl) ?_
 exact Y.1) : q := Y ⟨x⟩
theorem X3n (x : p) (Y : Bx p → q := by
 intro Y
 refine X17 ?_
 refine xaa rfl _ (xbv _ _ rfl _ _ _ rfl rfl HF1.out (by omega)) ?_
 exact Y.1) : q := Y ⟨x⟩
theorem X3o (x : p) (Y : Bx p → q := by
 intro Y
 refine X1b ?_
 refine X15 ?_
 exact Y.1) : q := Y ⟨x⟩
theorem X3p (x : p) (Y : Bx p → q := by
 intro Y
 refine xac rfl rfl HL (fun W hW => xan xe3 hW _ rfl _ rfl _ _ (.head _) (Nd.len _)) ?_
 exact Y.1) : q := Y ⟨x⟩
theorem X3q (x : p) (Y : Bx p → q := by
 intro Y
 refine X5 ?_
 refine xac rfl rfl HL (fun W hW => xbf bs340 _ rfl _ (by exact bd340_33 _)) ?_
 exact Y.1) : q := Y ⟨x⟩
theorem X3r (x : p) (Y : Bx p → q := by
 intro Y
 refine hK _ _ (fun h => by cases h) ?_
 exact Y.1) : q := Y ⟨x⟩
theorem X3s (x : p) (Y : Bx p → q := by
 intro Y
 refine X14 ?_
 refine X1i ?_
 exact Y.1) : q := Y ⟨x⟩
theorem X3t (x : p) (Y : Bx p → q := by
 intro Y
 refine xac rfl rfl HL (fun W hW => xag sc3 hW _ rfl _ _ rfl _ _ _ (.tail _ (.head _)) (rfl)) ?_
 exact Y.1) : q := Y ⟨x⟩
theorem X3u (x : p) (Y : Bx p → q := by
 intro Y
 refine X39 ?_; intro HL
 refine X38 ?_
 revert HL
 exact Y.1) : q := Y ⟨x⟩
theorem X3v (x : p) (Y : Bx p → q := by
 intro Y
 refine hK _ _ (fun _ => HL) ?_
 exact Y.1) : q := Y ⟨x⟩
theorem X3w (x : p) (Y : Bx p → q := by
 intro Y
 refine X3v ?_
 simp only [Act.put, qf, qg, qh]
 exact Y.1) : q := Y ⟨x⟩
theorem X3x (x : p) (Y : Bx p → q := by
 intro Y
 refine X3v ?_
 refine Xk ?_; intro K hK
 revert K hK
 exact Y.1) : q := Y ⟨x⟩
theorem X3y (x : p) (Y : Bx p → q := by
 intro Y
 refine X1s ?_
 refine X2c ?_
 exact Y.1) : q := Y ⟨x⟩
theorem X3z (x : p) (Y : Bx p → q := by
 intro Y
 refine X5 ?_
 refine xac rfl rfl hS (fun W hW => xd7 ia25 _ rfl (w.heap.size + 1) 0 rfl) ?_
 exact Y.1) : q := Y ⟨x⟩
theorem X40 (x : p) (Y : Bx p → q := by
 intro Y
 have hS1 := xh6 (w0.drew.alloc (.cells #[.slice (some ⟨w.heap.size, 0, none⟩) 32 32, .slice (some ⟨w.heap.size + 1, 0, none⟩) 32 32] 25))
 revert hS1
 exact Y.1) : q := Y ⟨x⟩
theorem X41 (x : p) (Y : Bx p → q := by
 intro Y
 refine rB (Below w0.heap.size w0) [] [4, 9, 12] [0, 1, 2, 3, 4, 5, 6, 7, 8, 10, 11, 9, 12, 13, 14, 15] 0 ?_
 exact Y.1) : q := Y ⟨x⟩
theorem X42 (x : p) (Y : Bx p → q := by
 intro Y
 refine xac rfl rfl hS (fun W hW => exec_g0 _ rfl w.heap.size rfl) ?_
 exact Y.1) : q := Y ⟨x⟩
theorem X43 (x : p) (Y : Bx p → q := by
 intro Y
 refine xac rfl rfl hS (fun W hW => xfy _ rfl _ _ rfl (xos (b1.below hW b1.lt)).1) ?_
 exact Y.1) : q := Y ⟨x⟩
theorem X44 (x : p) (Y : Bx p → q := by
 intro Y
 refine xac rfl rfl hS (fun W hW => exec_g1 _ rfl w.heap.size rfl) ?_
 exact Y.1) : q := Y ⟨x⟩
theorem X45 (x : p) (Y : Bx p → q := by
 intro Y
 refine xac rfl rfl hS (fun W hW => xfy _ rfl _ _ rfl (xos (b1.below hW b1.lt)).2) ?_
 exact Y.1) : q := Y ⟨x⟩
theorem X46 (x : p) (Y : Bx p → q := by
 intro Y
 refine xme rfl rfl hS ?_
 simp only [Act.put, qf, qg, qh]
 exact Y.1) : q := Y ⟨x⟩
theorem X47 (x : p) (Y : Bx p → q := by
 intro Y
 refine X1y ?_; intro K hK
 refine xad cf132 rfl _ rfl ?_
 simp only [qk, ql, Act.eval, qa, qb, qc, qd, qe]
 revert K hK
 exact Y.1) : q := Y ⟨x⟩
theorem X48 (x : p) (Y : Bx p → q := by
 intro Y
 refine xaa rfl _ (xaf xm1 _ rfl _ rfl) ?_
 exact Y.1) : q := Y ⟨x⟩
theorem X49 (x : p) (Y : Bx p → q := by
 intro Y
 refine xaa rfl _ (xcv sc252 HL _ rfl _ rfl _ (by with_reducible assumption)) ?_
 exact Y.1) : q := Y ⟨x⟩
theorem X4a (x : p) (Y : Bx p → q := by
 intro Y
 refine X17 ?_
 refine X1x ?_; intro K hK
 revert K hK
 exact Y.1) : q := Y ⟨x⟩
theorem X4b (x : p) (Y : Bx p → q := by
 intro Y
 rintro e w ⟨rfl, hb⟩
 replace HL := HL.next hb
 revert w hb HL
 exact Y.1) : q := Y ⟨x⟩
theorem X4c (x : p) (Y : Bx p → q := by
 intro Y
 refine X4b ?_; intro w hb HL
 clear hb
 revert w HL
 exact Y.1) : q := Y ⟨x⟩
theorem X4d (x : p) (Y : Bx p → q := by
 intro Y
 refine X4c ?_; intro w HL
 refine X21 ?_
 revert w HL
 exact Y.1) : q := Y ⟨x⟩
theorem X4e (x : p) (Y : Bx p → q := by
 intro Y
 refine xaa rfl _ (xhg _ rfl _ _ rfl rfl) ?_
 exact Y.1) : q := Y ⟨x⟩
theorem X4f (x : p) (Y : Bx p → q := by
 intro Y
 refine X4e ?_
 simp only [Act.put, qf, qg, qh]
 exact Y.1) : q := Y ⟨x⟩
theorem X4g (x : p) (Y : Bx p → q := by
 intro Y
 refine X4f ?_
 refine X4f ?_
 exact Y.1) : q := Y ⟨x⟩
theorem X4h (x : p) (Y : Bx p → q := by
 intro Y
 refine X17 ?_
 refine X4g ?_
 exact Y.1) : q := Y ⟨x⟩
theorem X4i (x : p) (Y : Bx p → q := by
 intro Y
 refine X4d ?_; intro w HL
 refine X4h ?_
 revert w HL
 exact Y.1) : q := Y ⟨x⟩
theorem X4j (x : p) (Y : Bx p → q := by
 intro Y
 refine xa6 xe3 rfl _ _ rfl HL 0 _ _ _ _ rfl rfl rfl (Nd.len _) (Nd.len _) (Nd.one _) ?_
 exact Y.1) : q := Y ⟨x⟩
theorem X4k (x : p) (Y : Bx p → q := by
 intro Y
 refine X3i ?_; intro w HL
 refine X11 ?_
 revert w HL
 exact Y.1) : q := Y ⟨x⟩
theorem X4l (x : p) (Y : Bx p → q := by
 intro Y
 refine X5 ?_
 refine X4j ?_
 refine X4k ?_; intro w HL
 revert w HL
 exact Y.1) : q := Y ⟨x⟩
theorem X4m (x : p) (Y : Bx p → q := by
 intro Y
 refine X2l ?_; intro g6 w HL
 refine X4l ?_; clear HL; intro w HL
 revert g6 w HL
 exact Y.1) : q := Y ⟨x⟩
theorem X4n (x : p) (Y : Bx p → q := by
 intro Y
 refine X4i ?_; intro w HL
 refine X4m ?_; clear HL; intro g6 w HL
 revert g6 w HL
 exact Y.1) : q := Y ⟨x⟩
theorem X4o (x : p) (Y : Bx p → q := by
 intro Y
 refine xad cf133 rfl _ rfl ?_
 simp only [qk, ql, Act.eval, qa, qb, qc, qd, qe]
 exact Y.1) : q := Y ⟨x⟩
theorem X4p (x : p) (Y : Bx p → q := by
 intro Y
 refine X2n ?_; intro K hK
 refine X4o ?_
 revert K hK
 exact Y.1) : q := Y ⟨x⟩
theorem X4q (x : p) (Y : Bx p → q := by
 intro Y
 with_reducible refine (xgv (h.below HL.below) z n val ok hG).mono ?_
 exact Y.1) : q := Y ⟨x⟩
theorem X4r (x : p) (Y : Bx p → q := by
 intro Y
 refine X4i ?_; intro w HL
 refine xah xir rfl rfl HL ?_
 clear HL
 intro g5 w HL
 refine X4l ?_; clear HL; intro w HL
 revert g5 w HL
 exact Y.1) : q := Y ⟨x⟩
theorem X4s (x : p) (Y : Bx p → q := by
 intro Y
 refine xaa rfl _ (xaf fa230_1 _ rfl _ rfl) ?_
 exact Y.1) : q := Y ⟨x⟩
theorem X4t (x : p) (Y : Bx p → q := by
 intro Y
 refine xaa rfl _ (xag sc30 HL _ rfl _ _ rfl _ _ _ (.head _) (Nd.g_kind _)) ?_
 exact Y.1) : q := Y ⟨x⟩
theorem X4u (x : p) (Y : Bx p → q := by
 intro Y
 refine xaa rfl _ (xaf xr3 _ rfl _ rfl) ?_
 exact Y.1) : q := Y ⟨x⟩
theorem X4v (x : p) (Y : Bx p → q := by
 intro Y
 refine X5 ?_
 refine xaa rfl _ (xag sc3 HL _ rfl _ _ rfl _ _ _ (.head _) (Nd.g_held _)) ?_
 exact Y.1) : q := Y ⟨x⟩
theorem X4w (x : p) (Y : Bx p → q := by
 intro Y
 refine xac rfl rfl HL (fun W hW => xiq _ rfl) ?_
 simp only [Act.put, Act.eval, qa, qb, qc, qd, qe, qf, qg, qh]
 exact Y.1) : q := Y ⟨x⟩
theorem X4x (x : p) (Y : Bx p → q := by
 intro Y
 refine X4w ?_
 refine Xc ?_
 exact Y.1) : q := Y ⟨x⟩
theorem X4y (x : p) (Y : Bx p → q := by
 intro Y
 refine X4w ?_
 refine X4x ?_
 exact Y.1) : q := Y ⟨x⟩
theorem X4z (x : p) (Y : Bx p → q := by
 intro Y
 refine xaa rfl _ (xaf xmy _ rfl _ rfl) ?_
 exact Y.1) : q := Y ⟨x⟩
theorem X50 (x : p) (Y : Bx p → q := by
 intro Y
 refine xaa rfl _ (xau ag24 HL _ rfl _ _ rfl _ _ _ (.head _) (Nd.g_key _) (D32.cl _)) ?_
 exact Y.1) : q := Y ⟨x⟩
theorem X51 (x : p) (Y : Bx p → q := by
 intro Y
 refine X5 ?_
 refine xa6 ag24 rfl _ _ rfl HL 1 _ _ _ _ rfl rfl rfl (D32.cl _) (D32.cl _) (D32.c1 _) ?_
 exact Y.1) : q := Y ⟨x⟩
theorem X52 (x : p) (Y : Bx p → q := by
 intro Y
 refine bodyPost_ret (xci rfl ag24 _ _ g4 24 _ rfl (HL.blk (.tail _ (.head _))) (D32.cl _)) rfl ?_
 exact Y.1) : q := Y ⟨x⟩
theorem X53 (x : p) (Y : Bx p → q := by
 intro Y
 with_reducible refine (xgv (h.below HL.below) z n val true hG).mono ?_
 exact Y.1) : q := Y ⟨x⟩
theorem X54 (x : p) (Y : Bx p → q := by
 intro Y
 with_reducible refine (xeq (h.below HL.below)).mono ?_
 exact Y.1) : q := Y ⟨x⟩
theorem X55 (x : p) (Y : Bx p → q := by
 intro Y
 refine xa6 ag23 rfl _ _ rfl HL 1 _ _ _ _ rfl rfl rfl (D32.cl _) (D32.cl _) (D32.c1 _) ?_
 exact Y.1) : q := Y ⟨x⟩
theorem X56 (x : p) (Y : Bx p → q := by
 intro Y
 refine X5 ?_
 refine X55 ?_
 exact Y.1) : q := Y ⟨x⟩
theorem X57 (x : p) (Y : Bx p → q := by
 intro Y
 refine X5 ?_
 refine X1x ?_; intro K hK
 revert K hK
 exact Y.1) : q := Y ⟨x⟩
theorem X58 (x : p) (Y : Bx p → q := by
 intro Y
 refine no_implicit_lambda% (X2e ?_)
 refine X2b ?_
 exact Y.1) : q := Y ⟨x⟩
theorem X59 (x : p) (Y : Bx p → q := by
 intro Y
 refine X2g ?_
 refine no_implicit_lambda% (X58 ?_)
 exact Y.1) : q := Y ⟨x⟩
theorem X5a (x : p) (Y : Bx p → q := by
 intro Y
 refine X27 ?_
 refine X17 ?_
 exact Y.1) : q := Y ⟨x⟩
theorem X5b (x : p) (Y : Bx p → q := by
 intro Y
 refine X5 ?_
 refine xab rfl _ (xag sc3 HL _ rfl _ _ rfl _ _ _ (.head _) (Nd.g_depth _)) ?_
 exact Y.1) : q := Y ⟨x⟩
theorem X5c (x : p) (Y : Bx p → q := by
 intro Y
 refine X21 ?_
 refine X4h ?_
 exact Y.1) : q := Y ⟨x⟩
theorem X5d (x : p) (Y : Bx p → q := by
 intro Y
 have hgs : Old w0 gs ∧ ¬ SbS g vs vf gs := ⟨HH.out.blk.lt, HH.out.sbs⟩
 revert hgs
 exact Y.1) : q := Y ⟨x⟩
theorem X5e (x : p) (Y : Bx p → q := by
 intro Y
 have HX := HL.less (D' := fun k => Old w0 k ∧ ¬ SbS g vs vf k) (fun k hk => hk.1)
 revert HX
 exact Y.1) : q := Y ⟨x⟩
theorem X5f (x : p) (Y : Bx p → q := by
 intro Y
 refine rB (Loc.P HL) [] [6] [0, 1, 2, 3, 4, 5, 6] 0 ?_
 exact Y.1) : q := Y ⟨x⟩
theorem X5g (x : p) (Y : Bx p → q := by
 intro Y
 refine xac rfl rfl HL (fun W hW => xaf xm1 _ rfl _ rfl) ?_
 exact Y.1) : q := Y ⟨x⟩
theorem X5h (x : p) (Y : Bx p → q := by
 intro Y
 refine xac rfl rfl HL (fun W hW => xjw sc252 hW _ rfl _ rfl _ hgs hcs) ?_
 exact Y.1) : q := Y ⟨x⟩
theorem X5i (x : p) (Y : Bx p → q := by
 intro Y
 refine ⟨_, rfl, hK _ _ (fun _ => HL) ?_⟩
 exact Y.1) : q := Y ⟨x⟩
theorem X5j (x : p) (Y : Bx p → q := by
 intro Y
 refine xad cf189 rfl _ rfl ?_
 simp only [qk, ql, Act.eval, qa, qb, qc, qd, qe]
 exact Y.1) : q := Y ⟨x⟩
theorem X5k (x : p) (Y : Bx p → q := by
 intro Y
 refine xad cf150 rfl _ rfl ?_
 simp only [qk, ql, Act.eval, qa, qb, qc, qd, qe]
 exact Y.1) : q := Y ⟨x⟩
theorem X5l (x : p) (Y : Bx p → q := by
 intro Y
 with_reducible refine ((C _).out).mono ?_
 exact Y.1) : q := Y ⟨x⟩
theorem X5m (x : p) (Y : Bx p → q := by
 intro Y
 refine X5k ?_
 refine X5l ?_
 exact Y.1) : q := Y ⟨x⟩
theorem X5n (x : p) (Y : Bx p → q := by
 intro Y
 refine X4d ?_; intro w HL
 refine X17 ?_
 revert w HL
 exact Y.1) : q := Y ⟨x⟩
theorem X5o (x : p) (Y : Bx p → q := by
 intro Y
 refine xjz rfl ?_
 intro K hK
 revert K hK
 exact Y.1) : q := Y ⟨x⟩
theorem X5p (x : p) (Y : Bx p → q := by
 intro Y
 refine X5 ?_
 refine X5o ?_; intro K hK
 revert K hK
 exact Y.1) : q := Y ⟨x⟩
theorem X5q (x : p) (Y : Bx p → q := by
 intro Y
 refine X21 ?_
 simp only [Act.put, qf, qg, qh]
 exact Y.1) : q := Y ⟨x⟩
theorem X5r (x : p) (Y : Bx p → q := by
 intro Y
 refine xc2 rfl _ rfl HL _ rfl ?_
 intro g4 w HL
 revert g4 w HL
 exact Y.1) : q := Y ⟨x⟩
theorem X5s (x : p) (Y : Bx p → q := by
 intro Y
 refine Xv ?_
 refine X5r ?_; intro g4 w HL
 revert g4 w HL
 exact Y.1) : q := Y ⟨x⟩
theorem X5t (x : p) (Y : Bx p → q := by
 intro Y
 with_reducible refine (xeq (HH.out.sw.below HL.below)).mono ?_
 exact Y.1) : q := Y ⟨x⟩
theorem X5u (x : p) (Y : Bx p → q := by
 intro Y
 refine xaa rfl _ (xa8 Tryz.underlying25 _ rfl _ _ _ rfl) ?_
 exact Y.1) : q := Y ⟨x⟩
theorem X5v (x : p) (Y : Bx p → q := by
 intro Y
 refine X14 ?_
 refine X5u ?_
 exact Y.1) : q := Y ⟨x⟩
theorem X5w (x : p) (Y : Bx p → q := by
 intro Y
 refine xad cf42 rfl _ rfl ?_
 simp only [qk, ql, Act.eval, qa, qb, qc, qd, qe]
 exact Y.1) : q := Y ⟨x⟩
theorem X5x (x : p) (Y : Bx p → q := by
 intro Y
 refine X4d ?_; intro w HL
 simp only [Act.put, qf, qg, qh]
 revert w HL
 exact Y.1) : q := Y ⟨x⟩
theorem X5y (x : p) (Y : Bx p → q := by
 intro Y
 refine xa6 ag23 rfl _ _ rfl HL 0 _ _ _ _ rfl rfl rfl (D32.cl _) (D32.cl _) (D32.c1 _) ?_
 exact Y.1) : q := Y ⟨x⟩
theorem X5z (x : p) (Y : Bx p → q := by
 intro Y
 refine X5 ?_
 refine X5y ?_
 exact Y.1) : q := Y ⟨x⟩
theorem X60 (x : p) (Y : Bx p → q := by
 intro Y
 refine X5z ?_
 refine X3j ?_; intro w HL
 revert w HL
 exact Y.1) : q := Y ⟨x⟩
theorem X61 (x : p) (Y : Bx p → q := by
 intro Y
 refine xac rfl rfl HL (fun W hW => xan ag24 hW _ rfl _ rfl _ _ (.tail _ (.head _)) (D32.cl _)) ?_
 exact Y.1) : q := Y ⟨x⟩
theorem X62 (x : p) (Y : Bx p → q := by
 intro Y
 refine xac rfl rfl HL (fun W hW => xan ag23 hW _ rfl _ rfl _ _ (.head _) (D32.cl _)) ?_
 exact Y.1) : q := Y ⟨x⟩
theorem X63 (x : p) (Y : Bx p → q := by
 intro Y
 refine xad cf41 rfl _ rfl ?_
 simp only [qk, ql, Act.eval, qa, qb, qc, qd, qe]
 exact Y.1) : q := Y ⟨x⟩
theorem X64 (x : p) (Y : Bx p → q := by
 intro Y
 refine X4b ?_; intro w hb HL
 have hB1 : Below w1.heap.size w1 w := ((Below.refl _ _).drew).trans hb
 revert w hb HL hB1
 exact Y.1) : q := Y ⟨x⟩
theorem X65 (x : p) (Y : Bx p → q := by
 intro Y
 refine X5i ?_
 simp only [Act.put, qf, qg, qh]
 exact Y.1) : q := Y ⟨x⟩
theorem X66 (x : p) (Y : Bx p → q := by
 intro Y
 refine xac rfl rfl HL (fun W hW => xbf bs228 _ rfl _ (by exact bd228_27 _)) ?_
 simp only [Act.put, qf, qg, qh]
 exact Y.1) : q := Y ⟨x⟩
theorem X67 (x : p) (Y : Bx p → q := by
 intro Y
 refine xac rfl rfl HL (fun W hW => xhg _ rfl _ _ rfl rfl) ?_
 exact Y.1) : q := Y ⟨x⟩
theorem X68 (x : p) (Y : Bx p → q := by
 intro Y
 refine X67 ?_
 simp only [Act.put, qf, qg, qh]
 exact Y.1) : q := Y ⟨x⟩
theorem X69 (x : p) (Y : Bx p → q := by
 intro Y
 refine xa6 ag353 rfl _ _ rfl HL 0 _ _ _ _ rfl rfl rfl (rfl) (rfl) ((by simp [Value.oneCell'])) ?_
 exact Y.1) : q := Y ⟨x⟩
theorem X6a (x : p) (Y : Bx p → q := by
 intro Y
 refine xaa rfl _ (xaf fa353_0 _ rfl _ rfl) ?_
 exact Y.1) : q := Y ⟨x⟩
theorem X6b (x : p) (Y : Bx p → q := by
 intro Y
 refine xaa rfl _ (xag sc3 HL _ rfl _ _ rfl _ _ _ (.head _) (rfl)) ?_
 exact Y.1) : q := Y ⟨x⟩
theorem X6c (x : p) (Y : Bx p → q := by
 intro Y
 refine xab rfl _ (xaf xr3 _ rfl _ rfl) ?_
 exact Y.1) : q := Y ⟨x⟩
theorem X6d (x : p) (Y : Bx p → q := by
 intro Y
 refine xab rfl _ (xag sc3 HL _ rfl _ _ rfl _ _ _ (.head _) (Nd.g_held _)) ?_
 exact Y.1) : q := Y ⟨x⟩
theorem X6e (x : p) (Y : Bx p → q := by
 intro Y
 refine X5 ?_
 refine xaa rfl _ (xag sc352 HL _ rfl _ _ rfl _ _ _ (.tail _ (.head _)) (rfl)) ?_
 exact Y.1) : q := Y ⟨x⟩
theorem X6f (x : p) (Y : Bx p → q := by
 intro Y
 refine X1b ?_
 refine X13 ?_
 exact Y.1) : q := Y ⟨x⟩
theorem X6g (x : p) (Y : Bx p → q := by
 intro Y
 refine xa6 ag24 rfl _ _ rfl HL 0 _ _ _ _ rfl rfl rfl (D32.cl _) (D32.cl _) (D32.c1 _) ?_
 exact Y.1) : q := Y ⟨x⟩
theorem X6h (x : p) (Y : Bx p → q := by
 intro Y
 refine X5 ?_
 refine X6g ?_
 exact Y.1) : q := Y ⟨x⟩
theorem X6i (x : p) (Y : Bx p → q := by
 intro Y
 refine xaa rfl _ (xan ag24 HL _ rfl _ rfl _ _ (.head _) (D32.cl _)) ?_
 exact Y.1) : q := Y ⟨x⟩
theorem X6j (x : p) (Y : Bx p → q := by
 intro Y
 refine Xv ?_
 refine X6i ?_
 exact Y.1) : q := Y ⟨x⟩
theorem X6k (x : p) (Y : Bx p → q := by
 intro Y
 refine X3d ?_
 refine X38 ?_
 exact Y.1) : q := Y ⟨x⟩
theorem X6l (x : p) (Y : Bx p → q := by
 intro Y
 refine xac rfl rfl HL (fun W hW => xan ag24 hW _ rfl _ rfl _ _ (.head _) (D32.cl _)) ?_
 exact Y.1) : q := Y ⟨x⟩
theorem X6m (x : p) (Y : Bx p → q := by
 intro Y
 refine X5i ?_
 refine Xk ?_; intro K hK
 revert K hK
 exact Y.1) : q := Y ⟨x⟩
theorem X6n (x : p) (Y : Bx p → q := by
 intro Y
 refine xad cf44 rfl _ rfl ?_
 simp only [qk, ql, Act.eval, qa, qb, qc, qd, qe]
 exact Y.1) : q := Y ⟨x⟩
theorem X6o (x : p) (Y : Bx p → q := by
 intro Y
 refine X5c ?_
 refine X1i ?_
 exact Y.1) : q := Y ⟨x⟩
theorem X6p (x : p) (Y : Bx p → q := by
 intro Y
 refine X1z ?_
 with_reducible refine (st_sides (HH.out.below HL.below) _ _ _ true HGG.out).mono ?_
 exact Y.1) : q := Y ⟨x⟩
theorem X6q (x : p) (Y : Bx p → q := by
 intro Y
 refine rB (Loc.P HL) [] [3, 4] [0, 1, 2, 3, 4, 5] 0 ?_
 refine X37 ?_; intro HL
 revert HL
 exact Y.1) : q := Y ⟨x⟩
theorem X6r (x : p) (Y : Bx p → q := by
 intro Y
 refine X4c ?_; intro w HL
 refine X6m ?_; intro K hK
 revert w HL K hK
 exact Y.1) : q := Y ⟨x⟩
theorem X6s (x : p) (Y : Bx p → q := by
 intro Y
 refine X4c ?_; intro w HL
 refine X65 ?_
 revert w HL
 exact Y.1) : q := Y ⟨x⟩
theorem X6t (x : p) (Y : Bx p → q := by
 intro Y
 refine X3e ?_
 refine Xd ?_
 exact Y.1) : q := Y ⟨x⟩
theorem X6u (x : p) (Y : Bx p → q := by
 intro Y
 refine Xz ?_
 refine X1i ?_
 exact Y.1) : q := Y ⟨x⟩
theorem X6v (x : p) (Y : Bx p → q := by
 intro Y
 refine xad cf154 rfl _ rfl ?_
 simp only [qk, ql, Act.eval, qa, qb, qc, qd, qe]
 exact Y.1) : q := Y ⟨x⟩
theorem X6w (x : p) (Y : Bx p → q := by
 intro Y
 refine X4d ?_; intro w HL
 refine X1c ?_
 revert w HL
 exact Y.1) : q := Y ⟨x⟩
theorem X6x (x : p) (Y : Bx p → q := by
 intro Y
 refine X14 ?_
 refine X11 ?_
 exact Y.1) : q := Y ⟨x⟩
theorem X6y (x : p) (Y : Bx p → q := by
 intro Y
 refine xad cf136 rfl _ rfl ?_
 simp only [qk, ql, Act.eval, qa, qb, qc, qd, qe]
 exact Y.1) : q := Y ⟨x⟩
theorem X6z (x : p) (Y : Bx p → q := by
 intro Y
 refine Xv ?_
 refine X1u ?_
 exact Y.1) : q := Y ⟨x⟩
theorem X70 (x : p) (Y : Bx p → q := by
 intro Y
 refine xad cf142 rfl _ rfl ?_
 simp only [qk, ql, Act.eval, qa, qb, qc, qd, qe]
 exact Y.1) : q := Y ⟨x⟩
theorem X71 (x : p) (Y : Bx p → q := by
 intro Y
 refine xaa rfl _ (xa4 (b := true) _ _ rfl _ _ rfl rfl k1) ?_
 exact Y.1) : q := Y ⟨x⟩
theorem X72 (x : p) (Y : Bx p → q := by
 intro Y
 refine X27 ?_
 refine X1o ?_
 exact Y.1) : q := Y ⟨x⟩
theorem X73 (x : p) (Y : Bx p → q := by
 intro Y
 refine X2h ?_
 refine X2b ?_
 exact Y.1) : q := Y ⟨x⟩
theorem X74 (x : p) (Y : Bx p → q := by
 intro Y
 refine xaa rfl _ (xbi (b := true) _ _ rfl _ _ rfl rfl k1) ?_
 exact Y.1) : q := Y ⟨x⟩
theorem X75 (x : p) (Y : Bx p → q := by
 intro Y
 refine X28 ?_
 refine X5o ?_; intro K hK
 revert K hK
 exact Y.1) : q := Y ⟨x⟩
theorem X76 (x : p) (Y : Bx p → q := by
 intro Y
 refine xc2 rfl _ rfl HL _ rfl ?_
 intro g6 w HL
 revert g6 w HL
 exact Y.1) : q := Y ⟨x⟩
theorem X77 (x : p) (Y : Bx p → q := by
 intro Y
 have hg6 : w0.heap.size ≤ g6 := Nat.le_of_not_lt (HL.own _ (.tail _ (.head _))).1
 have hg8 : w0.heap.size ≤ g8 := Nat.le_of_not_lt (HL.own _ (.head _)).1
 revert hg6 hg8
 exact Y.1) : q := Y ⟨x⟩
theorem X78 (x : p) (Y : Bx p → q := by
 intro Y
 have h68 : g8 ≠ g6 := (List.pairwise_cons.1 HL.nd).1 _ (.head _)
 have hg6l : g6 < w.heap.size := (HL.blk (.tail _ (.head _))).lt
 revert h68 hg6l
 exact Y.1) : q := Y ⟨x⟩
theorem X79 (x : p) (Y : Bx p → q := by
 intro Y
 refine xaa rfl _ (xan ag24 HL _ rfl _ rfl _ _ (.tail _ (.head _)) (D32.cl _)) ?_
 exact Y.1) : q := Y ⟨x⟩
theorem X7a (x : p) (Y : Bx p → q := by
 intro Y
 with_reducible refine (xqx (HH.out.below HL.below) root key way fin HW.out hl HR.out).mono ?_
 exact Y.1) : q := Y ⟨x⟩
theorem X7b (x : p) (Y : Bx p → q := by
 intro Y
 refine X5c ?_
 refine X4f ?_
 exact Y.1) : q := Y ⟨x⟩
theorem X7c (x : p) (Y : Bx p → q := by
 intro Y
 refine xaa rfl _ (xaf fa246_0 _ rfl _ rfl) ?_
 exact Y.1) : q := Y ⟨x⟩
theorem X7d (x : p) (Y : Bx p → q := by
 intro Y
 refine xaa rfl _ (xaf xm0 _ rfl _ rfl) ?_
 exact Y.1) : q := Y ⟨x⟩
theorem X7e (x : p) (Y : Bx p → q := by
 intro Y
 refine xaa rfl _ (xag sc3 HL _ rfl _ _ rfl _ _ _ (.head _) (Plc.g_fin _)) ?_
 exact Y.1) : q := Y ⟨x⟩
theorem X7f (x : p) (Y : Bx p → q := by
 intro Y
 with_reducible refine (xjf (HH.out.below (hB1.trans (HL.belowR _ hB1.size hL0))) _ n val ok HG.out).mono ?_
 exact Y.1) : q := Y ⟨x⟩
theorem X7g (x : p) (Y : Bx p → q := by
 intro Y
 refine xme rfl rfl HL ?_
 (try simp only [Act.put, qf, qg, qh])
 exact Y.1) : q := Y ⟨x⟩
theorem X7h (x : p) (Y : Bx p → q := by
 intro Y
 refine X7g ?_
 refine X7g ?_
 exact Y.1) : q := Y ⟨x⟩
theorem X7i (x : p) (Y : Bx p → q := by
 intro Y
 refine X7h ?_
 refine X7h ?_
 exact Y.1) : q := Y ⟨x⟩
theorem X7j (x : p) (Y : Bx p → q := by
 intro Y
 refine xmf rfl rfl HL ?_
 (try simp only [Act.put, qf, qg, qh])
 exact Y.1) : q := Y ⟨x⟩
theorem X7k (x : p) (Y : Bx p → q := by
 intro Y
 refine X5 ?_
 refine X4x ?_
 exact Y.1) : q := Y ⟨x⟩
theorem X7l (x : p) (Y : Bx p → q := by
 intro Y
 have hb8 : Blk w g8 246 (Plc.cells ⟨v, fin, false, false⟩) := HL.blk (.head _)
 have HX := HL.drop [(g6, 24, key.c)] (.cons _ (.refl _))
 revert hb8 HX
 exact Y.1) : q := Y ⟨x⟩
theorem X7m (x : p) (Y : Bx p → q := by
 intro Y
 refine rB (Loc.P HL) [] [5, 17, 19] [0, 1, 2, 3, 4, 7, 8, 11, 5, 6, 9, 10, 12, 13, 14, 15, 16, 17, 18, 19] 0 ?_
 exact Y.1) : q := Y ⟨x⟩
theorem X7n (x : p) (Y : Bx p → q := by
 intro Y
 refine X7h ?_
 refine X3e ?_
 exact Y.1) : q := Y ⟨x⟩
theorem X7o (x : p) (Y : Bx p → q := by
 intro Y
 refine Xv ?_
 refine xaa rfl _ (xan ag246 HL _ rfl _ rfl _ _ (.head _) (Plc.len _)) ?_
 exact Y.1) : q := Y ⟨x⟩
theorem X7p (x : p) (Y : Bx p → q := by
 intro Y
 refine xa6 ag246 rfl _ _ rfl HL 0 _ _ _ _ rfl rfl rfl (Plc.len _) (Plc.len _) (Plc.one _) ?_
 exact Y.1) : q := Y ⟨x⟩
theorem X7q (x : p) (Y : Bx p → q := by
 intro Y
 refine Xf ?_
 refine bodyPost_ret (xci rfl ag246 _ _ g8 246 _ rfl (HL.blk (.head _)) (Plc.len _)) rfl ?_
 exact Y.1) : q := Y ⟨x⟩
theorem X7r (x : p) (Y : Bx p → q := by
 intro Y
 refine xac rfl rfl HL (fun W hW => xag sc3 hW _ rfl _ _ rfl _ _ _ (.head _) (Plc.g_fin _)) ?_
 exact Y.1) : q := Y ⟨x⟩
theorem X7s (x : p) (Y : Bx p → q := by
 intro Y
 refine Xv ?_
 refine xc2 rfl _ rfl HL _ rfl ?_
 intro g1 w HL
 revert g1 w HL
 exact Y.1) : q := Y ⟨x⟩
theorem X7t (x : p) (Y : Bx p → q := by
 intro Y
 refine X7s ?_; intro g1 w HL
 refine X1c ?_
 revert g1 w HL
 exact Y.1) : q := Y ⟨x⟩
theorem X7u (x : p) (Y : Bx p → q := by
 intro Y
 refine xah zr32 rfl rfl HL ?_
 intro g3 w HL
 refine X22 ?_
 revert g3 w HL
 exact Y.1) : q := Y ⟨x⟩
theorem X7v (x : p) (Y : Bx p → q := by
 intro Y
 refine Xv ?_
 refine xaa rfl _ (xaf xqm _ rfl _ rfl) ?_
 simp only [Act.put, qf, qg, qh]
 exact Y.1) : q := Y ⟨x⟩
theorem X7w (x : p) (Y : Bx p → q := by
 intro Y
 refine X7v ?_
 refine xaa rfl _ (xag sc30 HL _ rfl _ _ rfl _ _ _ (.tail _ (.head _)) (Nod.g_kind _)) ?_
 refine X22 ?_
 exact Y.1) : q := Y ⟨x⟩
theorem X7x (x : p) (Y : Bx p → q := by
 intro Y
 refine xaa rfl _ (xaf fa32_1 _ rfl _ rfl) ?_
 exact Y.1) : q := Y ⟨x⟩
theorem X7y (x : p) (Y : Bx p → q := by
 intro Y
 refine xaa rfl _ (xau ag24 HL _ rfl _ _ rfl _ _ _ (.tail _ (.head _)) (Nod.g_key _) (D32.cl _)) ?_
 exact Y.1) : q := Y ⟨x⟩
theorem X7z (x : p) (Y : Bx p → q := by
 intro Y
 refine xaa rfl _ (xaf fa32_2 _ rfl _ rfl) ?_
 exact Y.1) : q := Y ⟨x⟩
theorem X80 (x : p) (Y : Bx p → q := by
 intro Y
 refine xaa rfl _ (xau ag23 HL _ rfl _ _ rfl _ _ _ (.tail _ (.head _)) (Nod.g_val _) (D32.cl _)) ?_
 exact Y.1) : q := Y ⟨x⟩
theorem X81 (x : p) (Y : Bx p → q := by
 intro Y
 refine xaa rfl _ (xbf bs32 _ rfl _ (by exact bd32_0 _ _)) ?_
 exact Y.1) : q := Y ⟨x⟩
theorem X82 (x : p) (Y : Bx p → q := by
 intro Y
 refine X5 ?_
 refine xa6 ag32 rfl _ _ rfl HL 0 _ _ _ _ rfl rfl rfl (Nod.len _) (Nod.len _) (Nod.one _) ?_
 exact Y.1) : q := Y ⟨x⟩
theorem X83 (x : p) (Y : Bx p → q := by
 intro Y
 refine Xv ?_
 refine xaa rfl _ (xan ag32 HL _ rfl _ rfl _ _ (.tail _ (.head _)) (Nod.len _)) ?_
 exact Y.1) : q := Y ⟨x⟩
theorem X84 (x : p) (Y : Bx p → q := by
 intro Y
 refine xaa rfl _ (xan ag32 HL _ rfl _ rfl _ _ (.head _) (Nod.len _)) ?_
 exact Y.1) : q := Y ⟨x⟩
theorem X85 (x : p) (Y : Bx p → q := by
 intro Y
 refine X84 ?_
 simp only [Act.put, qf, qg, qh]
 exact Y.1) : q := Y ⟨x⟩
theorem X86 (x : p) (Y : Bx p → q := by
 intro Y
 refine X83 ?_
 refine X5 ?_
 refine X85 ?_
 exact Y.1) : q := Y ⟨x⟩
theorem X87 (x : p) (Y : Bx p → q := by
 intro Y
 refine xaa rfl _ (xgw _ _ rfl x ⟨1, x.key, x.val, D32.z, D32.z⟩ rfl rfl _ HN.out) ?_
 exact Y.1) : q := Y ⟨x⟩
theorem X88 (x : p) (Y : Bx p → q := by
 intro Y
 refine xaa rfl _ (xaf fa32_3 _ rfl _ rfl) ?_
 exact Y.1) : q := Y ⟨x⟩
theorem X89 (x : p) (Y : Bx p → q := by
 intro Y
 refine xaa rfl _ (xau ag23 HL _ rfl _ _ rfl _ _ _ (.tail _ (.head _)) (Nod.g_left _) (D32.cl _)) ?_
 exact Y.1) : q := Y ⟨x⟩
theorem X8a (x : p) (Y : Bx p → q := by
 intro Y
 refine xaa rfl _ (xaf fa32_4 _ rfl _ rfl) ?_
 exact Y.1) : q := Y ⟨x⟩
theorem X8b (x : p) (Y : Bx p → q := by
 intro Y
 refine xaa rfl _ (xau ag23 HL _ rfl _ _ rfl _ _ _ (.tail _ (.head _)) (Nod.g_right _) (D32.cl _)) ?_
 exact Y.1) : q := Y ⟨x⟩
theorem X8c (x : p) (Y : Bx p → q := by
 intro Y
 refine xaa rfl _ (xgw _ _ rfl x ⟨2, D32.z, D32.z, x.left, x.right⟩ rfl rfl _ HN.out) ?_
 exact Y.1) : q := Y ⟨x⟩
theorem X8d (x : p) (Y : Bx p → q := by
 intro Y
 refine xaa rfl _ (xgw _ _ rfl x Nod.z rfl rfl _ HN.out) ?_
 exact Y.1) : q := Y ⟨x⟩
theorem X8e (x : p) (Y : Bx p → q := by
 intro Y
 refine xad cf160 rfl _ rfl ?_
 exact Y.1) : q := Y ⟨x⟩
theorem X8f (x : p) (Y : Bx p → q := by
 intro Y
 refine X1z ?_
 with_reducible refine (xkd x hn _).mono ?_
 exact Y.1) : q := Y ⟨x⟩
theorem X8g (x : p) (Y : Bx p → q := by
 intro Y
 refine xaa rfl _ (xag sc30 HL _ rfl _ _ rfl _ _ _ (.head _) (Nod.g_kind _)) ?_
 exact Y.1) : q := Y ⟨x⟩
theorem X8h (x : p) (Y : Bx p → q := by
 intro Y
 refine Xv ?_
 refine X1x ?_; intro K hK
 revert K hK
 exact Y.1) : q := Y ⟨x⟩
theorem X8i (x : p) (Y : Bx p → q := by
 intro Y
 refine xad cf117 rfl _ rfl ?_
 exact Y.1) : q := Y ⟨x⟩
theorem X8j (x : p) (Y : Bx p → q := by
 intro Y
 refine xaa rfl _ (xaf xh8 _ rfl _ rfl) ?_
 simp only [Act.put, qf, qg, qh]
 exact Y.1) : q := Y ⟨x⟩
theorem X8k (x : p) (Y : Bx p → q := by
 intro Y
 refine Xv ?_
 refine X8j ?_
 exact Y.1) : q := Y ⟨x⟩
theorem X8l (x : p) (Y : Bx p → q := by
 intro Y
 refine xaa rfl _ (xa8 Tryz.underlying29 _ rfl _ _ _ rfl) ?_
 exact Y.1) : q := Y ⟨x⟩
theorem X8m (x : p) (Y : Bx p → q := by
 intro Y
 refine X5 ?_
 refine X8l ?_
 exact Y.1) : q := Y ⟨x⟩
theorem X8n (x : p) (Y : Bx p → q := by
 intro Y
 refine X8k ?_
 refine xaa rfl _ (xag sc29 HL _ rfl _ _ rfl _ _ _ (.head _) (Prv.g_sides _)) ?_
 refine X8m ?_
 exact Y.1) : q := Y ⟨x⟩
theorem X8o (x : p) (Y : Bx p → q := by
 intro Y
 refine xaa rfl _ (xa4 _ _ rfl _ _ rfl rfl k1) ?_
 exact Y.1) : q := Y ⟨x⟩
theorem X8p (x : p) (Y : Bx p → q := by
 intro Y
 refine xaa rfl _ (xaf xjx _ rfl _ rfl) ?_
 simp only [Act.put, qf, qg, qh]
 exact Y.1) : q := Y ⟨x⟩
theorem X8q (x : p) (Y : Bx p → q := by
 intro Y
 refine Xv ?_
 refine X8p ?_
 exact Y.1) : q := Y ⟨x⟩
theorem X8r (x : p) (Y : Bx p → q := by
 intro Y
 refine xaa rfl _ (xau ag32 HL _ rfl _ _ rfl _ _ _ (.head _) (Prv.g_nod _) (Nod.len _)) ?_
 exact Y.1) : q := Y ⟨x⟩
theorem X8s (x : p) (Y : Bx p → q := by
 intro Y
 refine xaa rfl _ (xbi (b := true) _ _ rfl _ _ rfl rfl rfl) ?_
 exact Y.1) : q := Y ⟨x⟩
theorem X8t (x : p) (Y : Bx p → q := by
 intro Y
 refine X2h ?_
 refine X1u ?_
 exact Y.1) : q := Y ⟨x⟩
theorem X8u (x : p) (Y : Bx p → q := by
 intro Y
 refine xaa rfl _ (xbi (b := false) _ _ rfl _ _ rfl rfl rfl) ?_
 exact Y.1) : q := Y ⟨x⟩
theorem X8v (x : p) (Y : Bx p → q := by
 intro Y
 refine xab rfl _ (xaf xjx _ rfl _ rfl) ?_
 simp only [Act.put, qf, qg, qh]
 exact Y.1) : q := Y ⟨x⟩
theorem X8w (x : p) (Y : Bx p → q := by
 intro Y
 refine xab rfl _ (xcr xqm _ rfl _ _ rfl) ?_
 exact Y.1) : q := Y ⟨x⟩
theorem X8x (x : p) (Y : Bx p → q := by
 intro Y
 refine xab rfl _ (xag sc30 HL _ rfl _ _ rfl _ _ _ (.head _) (Prv.g_kind _)) ?_
 refine X1w ?_
 exact Y.1) : q := Y ⟨x⟩
theorem X8y (x : p) (Y : Bx p → q := by
 intro Y
 refine xaa rfl _ (xbr _ _ rfl _ _ _ rfl rfl HI.out (by omega)) ?_
 exact Y.1) : q := Y ⟨x⟩
theorem X8z (x : p) (Y : Bx p → q := by
 intro Y
 refine X14 ?_
 refine X8y ?_
 exact Y.1) : q := Y ⟨x⟩
theorem X90 (x : p) (Y : Bx p → q := by
 intro Y
 refine Xv ?_
 refine xc2 rfl _ rfl HL _ rfl ?_
 intro g2 w HL
 revert g2 w HL
 exact Y.1) : q := Y ⟨x⟩
theorem X91 (x : p) (Y : Bx p → q := by
 intro Y
 refine X8o ?_
 refine X22 ?_
 exact Y.1) : q := Y ⟨x⟩
theorem X92 (x : p) (Y : Bx p → q := by
 intro Y
 refine xah zr23 rfl rfl HL ?_
 intro g6 w HL
 revert g6 w HL
 exact Y.1) : q := Y ⟨x⟩
theorem X93 (x : p) (Y : Bx p → q := by
 intro Y
 refine X5z ?_
 refine X4k ?_; intro w HL
 revert w HL
 exact Y.1) : q := Y ⟨x⟩
theorem X94 (x : p) (Y : Bx p → q := by
 intro Y
 refine X14 ?_
 refine X8u ?_
 exact Y.1) : q := Y ⟨x⟩
theorem X95 (x : p) (Y : Bx p → q := by
 intro Y
 refine xaa rfl _ (xag sc29 HL _ rfl _ _ rfl _ _ _ (.tail _ (.tail _ (.head _))) (Prv.g_sides _)) ?_
 exact Y.1) : q := Y ⟨x⟩
theorem X96 (x : p) (Y : Bx p → q := by
 intro Y
 refine xaa rfl _ (xbv _ _ rfl _ _ _ rfl rfl HI.out (by omega)) ?_
 exact Y.1) : q := Y ⟨x⟩
theorem X97 (x : p) (Y : Bx p → q := by
 intro Y
 refine X14 ?_
 refine xaa rfl _ (xc3 (b := false) _ _ rfl _ _ rfl rfl (by decide)) ?_
 exact Y.1) : q := Y ⟨x⟩
theorem X98 (x : p) (Y : Bx p → q := by
 intro Y
 refine xaa rfl _ (xan ag23 HL _ rfl _ rfl _ _ (.head _) (D32.cl _)) ?_
 exact Y.1) : q := Y ⟨x⟩
theorem X99 (x : p) (Y : Bx p → q := by
 intro Y
 refine Xv ?_
 refine X98 ?_
 exact Y.1) : q := Y ⟨x⟩
theorem X9a (x : p) (Y : Bx p → q := by
 intro Y
 refine X56 ?_
 refine X4k ?_; intro w HL
 revert w HL
 exact Y.1) : q := Y ⟨x⟩
theorem X9b (x : p) (Y : Bx p → q := by
 intro Y
 refine bodyPost_ret (xak rfl ag23 _ _ g4 23 _ rfl (HL.blk (.tail _ (.head _))) (D32.cl _)) rfl ?_
 exact Y.1) : q := Y ⟨x⟩
theorem X9c (x : p) (Y : Bx p → q := by
 intro Y
 refine xaa rfl _ (xan ag24 HL _ rfl _ rfl _ _ (.tail _ (.tail _ (.tail _ (.head _)))) (D32.cl _)) ?_
 exact Y.1) : q := Y ⟨x⟩
theorem X9d (x : p) (Y : Bx p → q := by
 intro Y
 refine Xv ?_
 refine X9c ?_
 exact Y.1) : q := Y ⟨x⟩
theorem X9e (x : p) (Y : Bx p → q := by
 intro Y
 refine xac rfl rfl HL (fun W hW => xaf xh8 _ rfl _ rfl) ?_
 exact Y.1) : q := Y ⟨x⟩
theorem X9f (x : p) (Y : Bx p → q := by
 intro Y
 refine xac rfl rfl HL (fun W hW => xag sc29 hW _ rfl _ _ rfl _ _ _ (.tail _ (.tail _ (.head _))) (Prv.g_sides _)) ?_
 exact Y.1) : q := Y ⟨x⟩
theorem X9g (x : p) (Y : Bx p → q := by
 intro Y
 refine xac rfl rfl HL (fun W hW => xay ag23 _ rfl _ ds[i].c rfl (hW.rdO HEL.out) (by omega) (D32.cl _)) ?_
 exact Y.1) : q := Y ⟨x⟩
theorem X9h (x : p) (Y : Bx p → q := by
 intro Y
 refine xaa rfl _ (xbv _ _ rfl _ _ _ rfl rfl HJ.out (by omega)) ?_
 exact Y.1) : q := Y ⟨x⟩
theorem X9i (x : p) (Y : Bx p → q := by
 intro Y
 have hD : Old w ad.block := World.block_lt_of_cell? _ _ hc
 revert hD
 exact Y.1) : q := Y ⟨x⟩
theorem X9j (x : p) (Y : Bx p → q := by
 intro Y
 refine xah zr32 rfl rfl HL ?_
 intro g2 w HL
 refine X1c ?_
 revert g2 w HL
 exact Y.1) : q := Y ⟨x⟩
theorem X9k (x : p) (Y : Bx p → q := by
 intro Y
 refine X5v ?_
 simp only [Act.put, qf, qg, qh]
 exact Y.1) : q := Y ⟨x⟩
theorem X9l (x : p) (Y : Bx p → q := by
 intro Y
 refine xaa rfl _ (xao (b := true) _ _ rfl _ _ rfl rfl rfl) ?_
 exact Y.1) : q := Y ⟨x⟩
theorem X9m (x : p) (Y : Bx p → q := by
 intro Y
 refine X9k ?_
 refine X9l ?_
 exact Y.1) : q := Y ⟨x⟩
theorem X9n (x : p) (Y : Bx p → q := by
 intro Y
 refine X1o ?_
 refine xab rfl _ (xaz sl25 (.tmp 9) _ rfl ad 1 c 0 .i64 rfl rfl (by omega)) ?_
 exact Y.1) : q := Y ⟨x⟩
theorem X9o (x : p) (Y : Bx p → q := by
 intro Y
 refine X5 ?_
 refine xab rfl _ (xcv sc5 HL _ rfl (ad.add (0 * 1)) rfl _ hc) ?_
 simp only [Act.put, qf, qg, qh]
 exact Y.1) : q := Y ⟨x⟩
theorem X9p (x : p) (Y : Bx p → q := by
 intro Y
 refine xab rfl _ (xao (b := true) _ _ rfl _ _ rfl rfl rfl) ?_
 exact Y.1) : q := Y ⟨x⟩
theorem X9q (x : p) (Y : Bx p → q := by
 intro Y
 refine xaa rfl _ (xc8 bs32 rfl) ?_
 exact Y.1) : q := Y ⟨x⟩
theorem X9r (x : p) (Y : Bx p → q := by
 intro Y
 refine bodyPost_ret (xak rfl ag32 _ _ g2 32 _ rfl (HL.blk (.head _)) (Nod.len _)) rfl ?_
 exact Y.1) : q := Y ⟨x⟩
theorem X9s (x : p) (Y : Bx p → q := by
 intro Y
 refine xaa rfl _ (xao (b := false) _ _ rfl _ _ rfl rfl rfl) ?_
 exact Y.1) : q := Y ⟨x⟩
theorem X9t (x : p) (Y : Bx p → q := by
 intro Y
 refine xaa rfl _ (xao (b := false) _ _ rfl _ _ rfl rfl k0) ?_
 exact Y.1) : q := Y ⟨x⟩
theorem X9u (x : p) (Y : Bx p → q := by
 intro Y
 refine xaa rfl _ (xao (b := false) _ _ rfl _ _ rfl rfl k1) ?_
 exact Y.1) : q := Y ⟨x⟩
theorem X9v (x : p) (Y : Bx p → q := by
 intro Y
 refine xab rfl _ (xaz sl25 (.tmp 20) _ rfl ad 65 c 0 .i64 rfl rfl (by omega)) ?_
 exact Y.1) : q := Y ⟨x⟩
theorem X9w (x : p) (Y : Bx p → q := by
 intro Y
 refine X1o ?_
 refine xab rfl _ (xaz sl25 (.tmp 39) _ rfl ad 65 c 0 .i64 rfl rfl (by omega)) ?_
 exact Y.1) : q := Y ⟨x⟩
theorem X9x (x : p) (Y : Bx p → q := by
 intro Y
 refine rB (Loc.P HL) [] [9] [0, 1, 2, 3, 4, 5, 6, 7, 8, 9, 10] 0 ?_
 exact Y.1) : q := Y ⟨x⟩
theorem X9y (x : p) (Y : Bx p → q := by
 intro Y
 refine xac rfl rfl HL (fun W hW => xew Tryz.underlying23 _ rfl _ _ _ rfl (by omega)) ?_
 exact Y.1) : q := Y ⟨x⟩
theorem X9z (x : p) (Y : Bx p → q := by
 intro Y
 refine X5 ?_
 refine xac rfl rfl HL (fun W hW => xbf bs32 _ rfl _ (by exact bd32_0 _ _)) ?_
 exact Y.1) : q := Y ⟨x⟩
theorem Xa0 (x : p) (Y : Bx p → q := by
 intro Y
 refine X3w ?_
 refine X4x ?_
 exact Y.1) : q := Y ⟨x⟩
theorem Xa1 (x : p) (Y : Bx p → q := by
 intro Y
 refine Xf ?_
 refine bodyPost_ret (xak rfl ag32 _ _ g2 32 _ rfl hg2 (Nod.len _)) rfl ?_
 exact Y.1) : q := Y ⟨x⟩
theorem Xa2 (x : p) (Y : Bx p → q := by
 intro Y
 refine xaa rfl _ (xan ag34 HL _ rfl _ rfl _ _ (.head _) (Prv.len _)) ?_
 exact Y.1) : q := Y ⟨x⟩
theorem Xa3 (x : p) (Y : Bx p → q := by
 intro Y
 refine xaa rfl _ (xbi (b := true) _ _ rfl _ _ rfl rfl her) ?_
 exact Y.1) : q := Y ⟨x⟩
theorem Xa4 (x : p) (Y : Bx p → q := by
 intro Y
 refine X94 ?_
 refine X22 ?_
 exact Y.1) : q := Y ⟨x⟩
theorem Xa5 (x : p) (Y : Bx p → q := by
 intro Y
 refine X21 ?_
 refine X57 ?_; intro K hK
 revert K hK
 exact Y.1) : q := Y ⟨x⟩
theorem Xa6 (x : p) (Y : Bx p → q := by
 intro Y
 refine hK _ _ ?_
 (try simp only [Act.put, qf, qg, qh])
 exact Y.1) : q := Y ⟨x⟩
theorem Xa7 (x : p) (Y : Bx p → q := by
 intro Y
 refine Xa6 ?_
 refine X1x ?_; intro K hK
 revert K hK
 exact Y.1) : q := Y ⟨x⟩
theorem Xa8 (x : p) (Y : Bx p → q := by
 intro Y
 refine xad cf43 rfl _ rfl ?_
 exact Y.1) : q := Y ⟨x⟩
theorem Xa9 (x : p) (Y : Bx p → q := by
 intro Y
 with_reducible refine (empty_d _).mono ?_
 exact Y.1) : q := Y ⟨x⟩
theorem Xaa (x : p) (Y : Bx p → q := by
 intro Y
 have HI : Hid ((i : Int) + 1 = ((i + 1 : Nat) : Int)) := hZ (by omega)
 revert HI
 exact Y.1) : q := Y ⟨x⟩
theorem Xab (x : p) (Y : Bx p → q := by
 intro Y
 refine xaa rfl _ (xcj _ _ rfl _ _ rfl rfl k8) ?_
 exact Y.1) : q := Y ⟨x⟩
theorem Xac (x : p) (Y : Bx p → q := by
 intro Y
 refine X99 ?_
 simp only [Act.put, qf, qg, qh]
 exact Y.1) : q := Y ⟨x⟩
theorem Xad (x : p) (Y : Bx p → q := by
 intro Y
 refine xaa rfl _ (xan ag23 HL _ rfl _ rfl _ _ (.tail _ (.head _)) (D32.cl _)) ?_
 exact Y.1) : q := Y ⟨x⟩
theorem Xae (x : p) (Y : Bx p → q := by
 intro Y
 refine Xad ?_
 simp only [Act.put, qf, qg, qh]
 exact Y.1) : q := Y ⟨x⟩
theorem Xaf (x : p) (Y : Bx p → q := by
 intro Y
 refine Xv ?_
 refine X8y ?_
 refine X1h ?_
 exact Y.1) : q := Y ⟨x⟩
theorem Xag (x : p) (Y : Bx p → q := by
 intro Y
 refine xac rfl rfl HL (fun W hW => xq0 _ _ rfl i rfl rfl (by omega) q HQ.out) ?_
 exact Y.1) : q := Y ⟨x⟩
theorem Xah (x : p) (Y : Bx p → q := by
 intro Y
 refine X5 ?_
 refine xac rfl rfl HL (fun W hW => xbe sl25 _ _ rfl g30 NB NB q .i64 rfl rfl hqn) ?_
 exact Y.1) : q := Y ⟨x⟩
theorem Xai (x : p) (Y : Bx p → q := by
 intro Y
 refine xac rfl rfl HL (fun W hW => xq1 _ _ rfl i rfl rfl (by omega) m HM.out) ?_
 exact Y.1) : q := Y ⟨x⟩
theorem Xaj (x : p) (Y : Bx p → q := by
 intro Y
 refine xac rfl rfl HL (fun W hW => xpb _ _ rfl m rfl rfl hm8 sh HSH.out) ?_
 exact Y.1) : q := Y ⟨x⟩
theorem Xak (x : p) (Y : Bx p → q := by
 intro Y
 refine X3r ?_
 refine Xd ?_
 exact Y.1) : q := Y ⟨x⟩
theorem Xal (x : p) (Y : Bx p → q := by
 intro Y
 refine Xa6 ?_
 refine X11 ?_
 exact Y.1) : q := Y ⟨x⟩
theorem Xam (x : p) (Y : Bx p → q := by
 intro Y
 refine X13 ?_
 refine X1x ?_; intro K hK
 revert K hK
 exact Y.1) : q := Y ⟨x⟩
theorem Xan (x : p) (Y : Bx p → q := by
 intro Y
 refine xad cf52 rfl _ rfl ?_
 simp only [qk, ql, Act.eval, qa, qb, qc, qd, qe]
 exact Y.1) : q := Y ⟨x⟩
theorem Xao (x : p) (Y : Bx p → q := by
 intro Y
 with_reducible refine (xsc A n c l _ (HL.rdO hr) hl hn).mono ?_
 exact Y.1) : q := Y ⟨x⟩
theorem Xap (x : p) (Y : Bx p → q := by
 intro Y
 have HBK := fun (L : List (Nat × Nat × List Value)) (u : World) (h : Loc w1 _ L u) => H1.back h
 revert HBK
 exact Y.1) : q := Y ⟨x⟩
theorem Xaq (x : p) (Y : Bx p → q := by
 intro Y
 refine Xap ?_; intro HBK
 have HOD := fun (k : Nat) (hk : k < w0.heap.size) => H1.oldRest k hk
 revert HBK HOD
 exact Y.1) : q := Y ⟨x⟩
theorem Xar (x : p) (Y : Bx p → q := by
 intro Y
 refine xad cf58 rfl _ rfl ?_
 simp only [qk, ql, Act.eval, qa, qb, qc, qd, qe]
 exact Y.1) : q := Y ⟨x⟩
theorem Xas (x : p) (Y : Bx p → q := by
 intro Y
 refine Xv ?_
 refine xaa rfl _ (xc8 bs34 rfl) ?_
 exact Y.1) : q := Y ⟨x⟩
theorem Xat (x : p) (Y : Bx p → q := by
 intro Y
 refine xa6 ag34 rfl _ _ rfl HL 1 _ _ _ _ rfl rfl rfl (Prv.len _) (Prv.len _) (Prv.one _) ?_
 exact Y.1) : q := Y ⟨x⟩
theorem Xau (x : p) (Y : Bx p → q := by
 intro Y
 refine Xat ?_
 refine X4k ?_; intro w HL
 revert w HL
 exact Y.1) : q := Y ⟨x⟩
theorem Xav (x : p) (Y : Bx p → q := by
 intro Y
 refine bodyPost_ret (xak rfl ag34 _ _ g2 34 _ rfl (HL.blk (.tail _ (.head _))) (Prv.len _)) rfl ?_
 exact Y.1) : q := Y ⟨x⟩
theorem Xaw (x : p) (Y : Bx p → q := by
 intro Y
 with_reducible refine ((CB _).out).mono ?_
 exact Y.1) : q := Y ⟨x⟩
theorem Xax (x : p) (Y : Bx p → q := by
 intro Y
 refine xad cf53 rfl _ rfl ?_
 simp only [qk, ql, Act.eval, qa, qb, qc, qd, qe]
 exact Y.1) : q := Y ⟨x⟩
theorem Xay (x : p) (Y : Bx p → q := by
 intro Y
 refine xaa rfl _ (xcj _ _ rfl _ _ rfl rfl k9) ?_
 exact Y.1) : q := Y ⟨x⟩
theorem Xaz (x : p) (Y : Bx p → q := by
 intro Y
 refine xad cf59 rfl _ rfl ?_
 simp only [qk, ql, Act.eval, qa, qb, qc, qd, qe]
 exact Y.1) : q := Y ⟨x⟩
theorem Xb0 (x : p) (Y : Bx p → q := by
 intro Y
 refine xab rfl _ (xcg (b := false) _ rfl true rfl rfl) ?_
 exact Y.1) : q := Y ⟨x⟩
theorem Xb1 (x : p) (Y : Bx p → q := by
 intro Y
 refine Xb0 ?_
 refine X2c ?_
 exact Y.1) : q := Y ⟨x⟩
theorem Xb2 (x : p) (Y : Bx p → q := by
 intro Y
 refine xad cf60 rfl _ rfl ?_
 simp only [qk, ql, Act.eval, qa, qb, qc, qd, qe]
 exact Y.1) : q := Y ⟨x⟩
theorem Xb3 (x : p) (Y : Bx p → q := by
 intro Y
 refine Xb2 ?_
 with_reducible refine (xq3 (i := 2) HL rfl hR).mono ?_
 exact Y.1) : q := Y ⟨x⟩
theorem Xb4 (x : p) (Y : Bx p → q := by
 intro Y
 have hTX := hGt.tx (L0 := _ :: _ :: _ :: _ :: (G6 ++ G)) (L1 := []) (by simpa only [List.cons_append, List.append_assoc] using HL)
 revert hTX
 exact Y.1) : q := Y ⟨x⟩
theorem Xb5 (x : p) (Y : Bx p → q := by
 intro Y
 refine rB (Loc.P HL) [] [2, 8] [0, 1, 2, 3, 4, 5, 6, 7, 8, 9] 0 ?_
 exact Y.1) : q := Y ⟨x⟩
theorem Xb6 (x : p) (Y : Bx p → q := by
 intro Y
 refine xac rfl rfl HL (fun W hW => xan ag34 hW _ rfl _ rfl _ _ (.tail _ (.tail _ (.head _))) (Prv.len _)) ?_
 exact Y.1) : q := Y ⟨x⟩
theorem Xb7 (x : p) (Y : Bx p → q := by
 intro Y
 refine X3d ?_
 refine Xj ?_; intro K hK
 revert K hK
 exact Y.1) : q := Y ⟨x⟩
theorem Xb8 (x : p) (Y : Bx p → q := by
 intro Y
 with_reducible refine (xpf (i := 3) HL rfl hR).mono ?_
 exact Y.1) : q := Y ⟨x⟩
theorem Xb9 (x : p) (Y : Bx p → q := by
 intro Y
 refine xac rfl rfl HL (fun W hW => xcg (b := false) _ rfl true rfl rfl) ?_
 exact Y.1) : q := Y ⟨x⟩
theorem Xba (x : p) (Y : Bx p → q := by
 intro Y
 refine bodyPost_ret (xak rfl ag34 _ _ g2 34 _ rfl hb2 (Prv.len _)) rfl ?_
 exact Y.1) : q := Y ⟨x⟩
theorem Xbb (x : p) (Y : Bx p → q := by
 intro Y
 refine xab rfl _ (xcg (b := true) _ rfl false rfl rfl) ?_
 exact Y.1) : q := Y ⟨x⟩
theorem Xbc (x : p) (Y : Bx p → q := by
 intro Y
 refine xac rfl rfl HL (fun W hW => xaz sl25 (.tmp 36) _ rfl ad6 s6.n s6.c q .i64 HS6 rfl (by omega)) ?_
 exact Y.1) : q := Y ⟨x⟩
theorem Xbd (x : p) (Y : Bx p → q := by
 intro Y
 refine xac rfl rfl HL (fun W hW => xex sc5 _ rfl ad6 (q * 1) _ _ rfl (hG6.rdA (L0 := [_, _, _, _, _]) hW hA6) hx) ?_
 exact Y.1) : q := Y ⟨x⟩
theorem Xbe (x : p) (Y : Bx p → q := by
 intro Y
 refine X5 ?_
 refine xac rfl rfl HL (fun W hW => xly _ _ rfl x sh rfl rfl hxl hsh8) ?_
 exact Y.1) : q := Y ⟨x⟩
theorem Xbf (x : p) (Y : Bx p → q := by
 intro Y
 refine xlu sl29 el23 (by decide) rfl _ rfl HL _ rfl (D32.cl _) ?_
 intro g53 w HL
 refine X57 ?_; intro K hK
 revert g53 w HL K hK
 exact Y.1) : q := Y ⟨x⟩
theorem Xbg (x : p) (Y : Bx p → q := by
 intro Y
 refine xam sl29 el23 _ _ rfl (_ :: _ :: _ :: _ :: _ :: _ :: G6) _ sv _ hG HL rfl ⟨g53, 0, none⟩ 1 1 tagE.c rfl (Rd.of_blk0 (es := []) (by simpa using HL.blk (.head _))) (D32.cl _) (D32.c1 _) (by omega) (by omega) (by omega) ?_
 exact Y.1) : q := Y ⟨x⟩
theorem Xbh (x : p) (Y : Bx p → q := by
 intro Y
 refine X8z ?_
 refine X1c ?_
 exact Y.1) : q := Y ⟨x⟩
theorem Xbi (x : p) (Y : Bx p → q := by
 intro Y
 refine Xax ?_
 with_reducible refine (xf2 (i := 3) HX.drew rfl hR 32 (by omega) hI.b).mono ?_
 exact Y.1) : q := Y ⟨x⟩
theorem Xbj (x : p) (Y : Bx p → q := by
 intro Y
 have HL := HX.drop [] (List.nil_sublist _)
 revert HL
 exact Y.1) : q := Y ⟨x⟩
theorem Xbk (x : p) (Y : Bx p → q := by
 intro Y
 refine X3w ?_
 refine Xc ?_
 exact Y.1) : q := Y ⟨x⟩
theorem Xbl (x : p) (Y : Bx p → q := by
 intro Y
 refine xac rfl rfl HL (fun W hW => xcg (b := true) _ rfl false rfl rfl) ?_
 exact Y.1) : q := Y ⟨x⟩
theorem Xbm (x : p) (Y : Bx p → q := by
 intro Y
 have hfr := fun (k : Nat) h1 h2 => HL.fresh (w1 := w) (k := k) h1 h2
 revert hfr
 exact Y.1) : q := Y ⟨x⟩
theorem Xbn (x : p) (Y : Bx p → q := by
 intro Y
 have H1 := HL.next hb
 refine Xbm ?_; intro hfr
 revert H1 hfr
 exact Y.1) : q := Y ⟨x⟩
theorem Xbo (x : p) (Y : Bx p → q := by
 intro Y
 refine xa6 ag34 rfl _ _ rfl HL 0 _ _ _ _ rfl rfl rfl (Prv.len _) (Prv.len _) (Prv.one _) ?_
 exact Y.1) : q := Y ⟨x⟩
theorem Xbp (x : p) (Y : Bx p → q := by
 intro Y
 refine xaa rfl _ (xcg (b := false) _ rfl true rfl rfl) ?_
 exact Y.1) : q := Y ⟨x⟩
theorem Xbq (x : p) (Y : Bx p → q := by
 intro Y
 refine X14 ?_
 refine Xbp ?_
 exact Y.1) : q := Y ⟨x⟩
theorem Xbr (x : p) (Y : Bx p → q := by
 intro Y
 refine xad cf47 rfl _ rfl ?_
 simp only [qk, ql, Act.eval, qa, qb, qc, qd, qe]
 exact Y.1) : q := Y ⟨x⟩
theorem Xbs (x : p) (Y : Bx p → q := by
 intro Y
 refine xad cf48 rfl _ rfl ?_
 simp only [qk, ql, Act.eval, qa, qb, qc, qd, qe]
 exact Y.1) : q := Y ⟨x⟩
theorem Xbt (x : p) (Y : Bx p → q := by
 intro Y
 with_reducible refine (xdt s1 _ A n c l _ (hG1.tx (L0 := [_, _]) HL) (Rd.below HT.out.rd (HBK _ _ HL)) HT.out.len).mono ?_
 exact Y.1) : q := Y ⟨x⟩
theorem Xbu (x : p) (Y : Bx p → q := by
 intro Y
 refine xab rfl _ (xc4 (b := false) _ _ rfl _ _ rfl rfl k6) ?_
 exact Y.1) : q := Y ⟨x⟩
theorem Xbv (x : p) (Y : Bx p → q := by
 intro Y
 refine xab rfl _ (xc4 (b := true) _ _ rfl _ _ rfl rfl k6) ?_
 exact Y.1) : q := Y ⟨x⟩
theorem Xbw (x : p) (Y : Bx p → q := by
 intro Y
 refine xaa rfl _ (xcg (b := true) _ rfl false rfl rfl) ?_
 exact Y.1) : q := Y ⟨x⟩
theorem Xbx (x : p) (Y : Bx p → q := by
 intro Y
 refine X14 ?_
 refine Xbw ?_
 exact Y.1) : q := Y ⟨x⟩
theorem Xby (x : p) (Y : Bx p → q := by
 intro Y
 refine X1z ?_
 with_reducible refine (xl0 A n c l _ (HT.out.below HL.below) hn).mono ?_
 exact Y.1) : q := Y ⟨x⟩
theorem Xbz (x : p) (Y : Bx p → q := by
 intro Y
 refine xaa rfl _ (xan ag24 HL _ rfl _ rfl _ _ (.tail _ (.tail _ (.head _))) (D32.cl _)) ?_
 exact Y.1) : q := Y ⟨x⟩
theorem Xc0 (x : p) (Y : Bx p → q := by
 intro Y
 refine xaa rfl _ (xan ag34 HL _ rfl _ rfl _ _ (.tail _ (.head _)) (Prv.len _)) ?_
 exact Y.1) : q := Y ⟨x⟩
theorem Xc1 (x : p) (Y : Bx p → q := by
 intro Y
 refine bodyPost_ret (ret_cct rfl ag34 ag23 _ _ g4 34 g5 23 _ _ rfl (HL.blk (.tail _ (.head _))) (Prv.len _) rfl (HL.blk (.head _)) (D32.cl _)) rfl ?_
 exact Y.1) : q := Y ⟨x⟩
theorem Xc2 (x : p) (Y : Bx p → q := by
 intro Y
 refine xaa rfl _ (xdq _ rfl D32.z.c.toArray (by kernel_rfl)) ?_
 exact Y.1) : q := Y ⟨x⟩
theorem Xc3 (x : p) (Y : Bx p → q := by
 intro Y
 refine X79 ?_
 refine X4a ?_; intro K hK
 revert K hK
 exact Y.1) : q := Y ⟨x⟩
theorem Xc4 (x : p) (Y : Bx p → q := by
 intro Y
 refine X8q ?_
 refine xaa rfl _ (xcr xqm _ rfl _ _ rfl) ?_
 exact Y.1) : q := Y ⟨x⟩
theorem Xc5 (x : p) (Y : Bx p → q := by
 intro Y
 refine xaa rfl _ (xag sc30 HL _ rfl _ _ rfl _ _ _ (.tail _ (.head _)) (Prv.g_kind _)) ?_
 exact Y.1) : q := Y ⟨x⟩
theorem Xc6 (x : p) (Y : Bx p → q := by
 intro Y
 refine xaa rfl _ (xao (b := true) _ _ rfl _ _ rfl rfl k4) ?_
 exact Y.1) : q := Y ⟨x⟩
theorem Xc7 (x : p) (Y : Bx p → q := by
 intro Y
 refine xaa rfl _ (xan ag23 HL _ rfl _ rfl _ _ (.tail _ (.tail _ (.tail _ (.tail _ (.head _))))) (D32.cl _)) ?_
 simp only [Act.put, qf, qg, qh]
 exact Y.1) : q := Y ⟨x⟩
theorem Xc8 (x : p) (Y : Bx p → q := by
 intro Y
 refine Xac ?_
 refine Xc7 ?_
 exact Y.1) : q := Y ⟨x⟩
theorem Xc9 (x : p) (Y : Bx p → q := by
 intro Y
 refine xaa rfl _ (xdn ab25 _ _ rfl t root rfl rfl false k5) ?_
 exact Y.1) : q := Y ⟨x⟩
theorem Xca (x : p) (Y : Bx p → q := by
 intro Y
 refine xab rfl _ (xcr fa32_1 _ rfl _ _ rfl) ?_
 exact Y.1) : q := Y ⟨x⟩
theorem Xcb (x : p) (Y : Bx p → q := by
 intro Y
 refine xab rfl _ (xau ag24 HL _ rfl _ _ rfl _ _ _ (.tail _ (.head _)) (Prv.g_key _) (D32.cl _)) ?_
 exact Y.1) : q := Y ⟨x⟩
theorem Xcc (x : p) (Y : Bx p → q := by
 intro Y
 refine xab rfl _ (xan ag24 HL _ rfl _ rfl _ _ (.tail _ (.tail _ (.tail _ (.head _)))) (D32.cl _)) ?_
 exact Y.1) : q := Y ⟨x⟩
theorem Xcd (x : p) (Y : Bx p → q := by
 intro Y
 refine X5 ?_
 refine Xcc ?_
 exact Y.1) : q := Y ⟨x⟩
theorem Xce (x : p) (Y : Bx p → q := by
 intro Y
 refine xab rfl _ (xaf xh8 _ rfl _ rfl) ?_
 exact Y.1) : q := Y ⟨x⟩
theorem Xcf (x : p) (Y : Bx p → q := by
 intro Y
 refine xab rfl _ (xag sc29 HL _ rfl _ _ rfl _ _ _ (.tail _ (.head _)) (Prv.g_sides _)) ?_
 exact Y.1) : q := Y ⟨x⟩
theorem Xcg (x : p) (Y : Bx p → q := by
 intro Y
 refine xab rfl _ (xa8 Tryz.underlying29 _ rfl _ _ _ rfl) ?_
 exact Y.1) : q := Y ⟨x⟩
theorem Xch (x : p) (Y : Bx p → q := by
 intro Y
 refine xad cf105 rfl _ rfl ?_
 simp only [qk, ql, Act.eval, qa, qb, qc, qd, qe]
 exact Y.1) : q := Y ⟨x⟩
theorem Xci (x : p) (Y : Bx p → q := by
 intro Y
 with_reducible refine (xhn _ x.key key (x.sides.n : Int) (by omega)).mono ?_
 exact Y.1) : q := Y ⟨x⟩
theorem Xcj (x : p) (Y : Bx p → q := by
 intro Y
 refine xa6 xoh rfl _ _ rfl HL 2 _ _ _ _ rfl rfl rfl (Sai.len _) (Sai.len _) (Sai.one _) ?_
 exact Y.1) : q := Y ⟨x⟩
theorem Xck (x : p) (Y : Bx p → q := by
 intro Y
 refine X5 ?_
 refine Xcj ?_
 exact Y.1) : q := Y ⟨x⟩
theorem Xcl (x : p) (Y : Bx p → q := by
 intro Y
 refine xaa rfl _ (xan xoh HL _ rfl _ rfl _ _ (.tail _ (.tail _ (.head _))) (Sai.len _)) ?_
 exact Y.1) : q := Y ⟨x⟩
theorem Xcm (x : p) (Y : Bx p → q := by
 intro Y
 refine Xf ?_
 refine bodyPost_ret (xak rfl xoh _ _ g6 114 _ rfl (HL.blk (.tail _ (.tail _ (.head _)))) (Sai.len _)) rfl ?_
 exact Y.1) : q := Y ⟨x⟩
theorem Xcn (x : p) (Y : Bx p → q := by
 intro Y
 refine xaa rfl _ (xc8 bs114 rfl) ?_
 exact Y.1) : q := Y ⟨x⟩
theorem Xco (x : p) (Y : Bx p → q := by
 intro Y
 refine Xc8 ?_
 refine xaa rfl _ (xdn ab25 _ _ rfl t root rfl rfl true k5) ?_
 exact Y.1) : q := Y ⟨x⟩
theorem Xcp (x : p) (Y : Bx p → q := by
 intro Y
 refine xaa rfl _ (xao (b := false) _ _ rfl _ _ rfl rfl k4) ?_
 exact Y.1) : q := Y ⟨x⟩
theorem Xcq (x : p) (Y : Bx p → q := by
 intro Y
 refine X5s ?_; intro g4 w HL
 simp only [Act.put, qf, qg, qh]
 revert g4 w HL
 exact Y.1) : q := Y ⟨x⟩
theorem Xcr (x : p) (Y : Bx p → q := by
 intro Y
 refine Xcq ?_; intro g4 w HL
 refine X2x ?_; clear HL; intro g5 w HL
 revert g4 g5 w HL
 exact Y.1) : q := Y ⟨x⟩
theorem Xcs (x : p) (Y : Bx p → q := by
 intro Y
 refine xad cf49 rfl _ rfl ?_
 simp only [qk, ql, Act.eval, qa, qb, qc, qd, qe]
 exact Y.1) : q := Y ⟨x⟩
theorem Xct (x : p) (Y : Bx p → q := by
 intro Y
 refine Xcs ?_
 with_reducible refine (xih root key A n c l _ (HT.out.below HL.below) hn).mono ?_
 exact Y.1) : q := Y ⟨x⟩
theorem Xcu (x : p) (Y : Bx p → q := by
 intro Y
 refine xa6 xoh rfl _ _ rfl HL 0 _ _ _ _ rfl rfl rfl (Sai.len _) (Sai.len _) (Sai.one _) ?_
 exact Y.1) : q := Y ⟨x⟩
theorem Xcv (x : p) (Y : Bx p → q := by
 intro Y
 refine X14 ?_
 refine X9l ?_
 exact Y.1) : q := Y ⟨x⟩
theorem Xcw (x : p) (Y : Bx p → q := by
 intro Y
 refine xab rfl _ (xaf xrw _ rfl _ rfl) ?_
 exact Y.1) : q := Y ⟨x⟩
theorem Xcx (x : p) (Y : Bx p → q := by
 intro Y
 refine xab rfl _ (xag sc4 HL _ rfl _ _ rfl _ _ _ (.head _) (Sai.g_there _)) ?_
 exact Y.1) : q := Y ⟨x⟩
theorem Xcy (x : p) (Y : Bx p → q := by
 intro Y
 refine X14 ?_
 refine xaa rfl _ (xao (b := false) _ _ rfl _ _ rfl rfl her) ?_
 exact Y.1) : q := Y ⟨x⟩
theorem Xcz (x : p) (Y : Bx p → q := by
 intro Y
 refine xaa rfl _ (xa8 Tryz.underlying50 _ rfl _ _ _ rfl) ?_
 exact Y.1) : q := Y ⟨x⟩
theorem Xd0 (x : p) (Y : Bx p → q := by
 intro Y
 have HL : Loc w0 (fun _ => False) [] w := ⟨⟨hf.os, hf.tape, hf.output, hf.size, fun k hk hn => absurd not_false hn⟩, fun x h => by simp at h, List.Pairwise.nil, fun k h => h.elim⟩
 revert HL
 exact Y.1) : q := Y ⟨x⟩
theorem Xd1 (x : p) (Y : Bx p → q := by
 intro Y
 have HI1 : Hid ((i : Int) + 1 = ((i + 1 : Nat) : Int)) := hZ (by omega)
 have HJ1 : Hid ((j : Int) - 1 = (n : Int) - 1 - ((i + 1 : Nat) : Int)) := hZ (by omega)
 revert HI1 HJ1
 exact Y.1) : q := Y ⟨x⟩
theorem Xd2 (x : p) (Y : Bx p → q := by
 intro Y
 refine xaa rfl _ (xcj _ _ rfl _ _ rfl rfl k1) ?_
 exact Y.1) : q := Y ⟨x⟩
theorem Xd3 (x : p) (Y : Bx p → q := by
 intro Y
 refine xac rfl rfl HL (fun W hW => xbe sl50 _ _ rfl g n cap i .i64 rfl rfl (by omega)) ?_
 exact Y.1) : q := Y ⟨x⟩
theorem Xd4 (x : p) (Y : Bx p → q := by
 intro Y
 refine xcl [7, 11] (by kernel_rfl) ?_
 simp only [pick, qk, ql, qi, qj]
 exact Y.1) : q := Y ⟨x⟩
theorem Xd5 (x : p) (Y : Bx p → q := by
 intro Y
 refine X2 ?_
 refine Xj ?_; intro K hK
 revert K hK
 exact Y.1) : q := Y ⟨x⟩
theorem Xd6 (x : p) (Y : Bx p → q := by
 intro Y
 refine xb5 sc25.i _ _ rfl g (i * 1) 25 _ xj rfl rfl hoj hb (by omega) ?_
 have hb2 := hb.set_ (i * 1) xj
 revert hb2
 exact Y.1) : q := Y ⟨x⟩
theorem Xd7 (x : p) (Y : Bx p → q := by
 intro Y
 have HL2 : Loc w0 (fun _ => False) [] _ := ⟨⟨hf2.os, hf2.tape, hf2.output, hf2.size, fun k hk hn => absurd not_false hn⟩, fun x h => by simp at h, List.Pairwise.nil, fun k h => h.elim⟩
 refine hK _ _ (fun _ => HL2) ?_
 revert HL2
 exact Y.1) : q := Y ⟨x⟩
theorem Xd8 (x : p) (Y : Bx p → q := by
 intro Y
 refine xb5 sc25.i _ _ rfl g (j * 1) 25 _ xi rfl rfl hoi hb (by omega) ?_
 have hb2 := hb.set_ (j * 1) xi
 revert hb2
 exact Y.1) : q := Y ⟨x⟩
theorem Xd9 (x : p) (Y : Bx p → q := by
 intro Y
 refine xaa rfl _ (xbr _ _ rfl _ _ _ rfl rfl HI1.out (by omega)) ?_
 exact Y.1) : q := Y ⟨x⟩
theorem Xda (x : p) (Y : Bx p → q := by
 intro Y
 refine xaa rfl _ (xbv _ _ rfl _ _ _ rfl rfl HJ1.out (by omega)) ?_
 exact Y.1) : q := Y ⟨x⟩
theorem Xdb (x : p) (Y : Bx p → q := by
 intro Y
 refine xac rfl rfl HL (fun W hW => xbe sl29 _ _ rfl g n cap i .i64 rfl rfl (by omega)) ?_
 exact Y.1) : q := Y ⟨x⟩
theorem Xdc (x : p) (Y : Bx p → q := by
 intro Y
 refine Xk ?_; intro K hK
 refine xav ag23.i _ _ rfl g (i * 32) 23 _ _ rfl rfl hb (D32.cl _) hil (D32.c1 _) ?_
 revert K hK
 exact Y.1) : q := Y ⟨x⟩
theorem Xdd (x : p) (Y : Bx p → q := by
 intro Y
 with_reducible refine (sum_sv s8 tx _ (hG8.txm hm8 HL) hs8).mono ?_
 exact Y.1) : q := Y ⟨x⟩
theorem Xde (x : p) (Y : Bx p → q := by
 intro Y
 refine X4b ?_; intro w hb HL
 replace HX := HX.next hb
 revert w hb HL HX
 exact Y.1) : q := Y ⟨x⟩
theorem Xdf (x : p) (Y : Bx p → q := by
 intro Y
 refine xf5 zr23 rfl HX ?_
 exact Y.1) : q := Y ⟨x⟩
theorem Xdg (x : p) (Y : Bx p → q := by
 intro Y
 refine xd4 ag23 _ _ rfl HX 1 g12 23 D32.z.c (shaD tx).c rfl rfl rfl (D32.cl _) (D32.cl _) (D32.c1 _) ?_
 exact Y.1) : q := Y ⟨x⟩
theorem Xdh (x : p) (Y : Bx p → q := by
 intro Y
 intro w HX
 simp only [qg, qh] at HX
 revert w HX
 exact Y.1) : q := Y ⟨x⟩
theorem Xdi (x : p) (Y : Bx p → q := by
 intro Y
 refine Xdh ?_; intro w HX
 have HL : Loc w1 D1 LB w := HX.drop _ ((sB _ _).trans (sB _ _))
 revert w HX HL
 exact Y.1) : q := Y ⟨x⟩
theorem Xdj (x : p) (Y : Bx p → q := by
 intro Y
 refine Xdi ?_; intro w HX HL
 refine X3x ?_; intro K hK
 revert w HX HL K hK
 exact Y.1) : q := Y ⟨x⟩
theorem Xdk (x : p) (Y : Bx p → q := by
 intro Y
 refine xd4 ag23 _ _ rfl HX 0 g13 23 D32.z.c ds[i].c rfl rfl rfl (D32.cl _) (D32.cl _) (D32.c1 _) ?_
 exact Y.1) : q := Y ⟨x⟩
theorem Xdl (x : p) (Y : Bx p → q := by
 intro Y
 refine xd4 ag23 _ _ rfl HX 0 g12 23 D32.z.c (shaD tx).c rfl rfl rfl (D32.cl _) (D32.cl _) (D32.c1 _) ?_
 exact Y.1) : q := Y ⟨x⟩
theorem Xdm (x : p) (Y : Bx p → q := by
 intro Y
 refine xd4 ag23 _ _ rfl HX 1 g13 23 D32.z.c ds[i].c rfl rfl rfl (D32.cl _) (D32.cl _) (D32.c1 _) ?_
 exact Y.1) : q := Y ⟨x⟩
theorem Xdn (x : p) (Y : Bx p → q := by
 intro Y
 refine xds sl50 el25 1 _ rfl HL [Sv.v s9] (by simp [Sv.v, Value.oneCell']) rfl (by omega) (by omega) (by simp [Act.eval]) ?_
 exact Y.1) : q := Y ⟨x⟩
theorem Xdo (x : p) (Y : Bx p → q := by
 intro Y
 refine xam sl50 el25 _ _ rfl [_, _, _, _, _] _ so _ hGo HL rfl ⟨g55, 0, none⟩ 1 1 [Sv.v s9] rfl (Rd.of_blk0 (es := []) (by simpa using HL.blk (.head _))) rfl (by simp [Sv.v, Value.oneCell']) (by omega) (by omega) (by omega) ?_
 exact Y.1) : q := Y ⟨x⟩
theorem Xdp (x : p) (Y : Bx p → q := by
 intro Y
 refine xac rfl rfl HL (fun W hW => xaz sl50 (.tmp 41) _ rfl ad1 sa.n sa.c d .i64 HS1.out rfl hd1) ?_
 exact Y.1) : q := Y ⟨x⟩
theorem Xdq (x : p) (Y : Bx p → q := by
 intro Y
 refine xac rfl rfl HL (fun W hW => xcx sc25 _ rfl (ad1.add (d * 1)) (Sv.v s1) rfl (r1.keepN (w0 := w0) hW f1 hD)) ?_
 exact Y.1) : q := Y ⟨x⟩
theorem Xdr (x : p) (Y : Bx p → q := by
 intro Y
 refine xac rfl rfl HL (fun W hW => xaz sl50 (.tmp 45) _ rfl ad2 sb.n sb.c d .i64 HS2.out rfl hd2) ?_
 exact Y.1) : q := Y ⟨x⟩
theorem Xds (x : p) (Y : Bx p → q := by
 intro Y
 refine xac rfl rfl HL (fun W hW => xcx sc25 _ rfl (ad2.add (d * 1)) (Sv.v s2) rfl (r2.keepN (w0 := w0) hW f2 hD)) ?_
 exact Y.1) : q := Y ⟨x⟩
theorem Xdt (x : p) (Y : Bx p → q := by
 intro Y
 refine Xbs ?_
 with_reducible refine (xiw s1 s2 _ _ _ (t1.keep HL fA1 hD) (t2.keep HL fA2 hD)).mono ?_
 exact Y.1) : q := Y ⟨x⟩
theorem Xdu (x : p) (Y : Bx p → q := by
 intro Y
 refine xaa rfl _ (xaf xqn _ rfl _ rfl) ?_
 simp only [Act.put, qf, qg, qh]
 exact Y.1) : q := Y ⟨x⟩
theorem Xdv (x : p) (Y : Bx p → q := by
 intro Y
 refine xaa rfl _ (xan ag23 HL _ rfl _ rfl _ _ (.tail _ (.tail _ (.head _))) (D32.cl _)) ?_
 exact Y.1) : q := Y ⟨x⟩
theorem Xdw (x : p) (Y : Bx p → q := by
 intro Y
 refine X5 ?_
 refine xaa rfl _ (xaf fa39_2 _ rfl _ rfl) ?_
 simp only [Act.put, qf, qg, qh]
 exact Y.1) : q := Y ⟨x⟩
theorem Xdx (x : p) (Y : Bx p → q := by
 intro Y
 refine Xdw ?_
 refine xaa rfl _ (xag sc25 HL _ rfl _ _ rfl _ _ _ (.head _) (Clm.g_byt _)) ?_
 exact Y.1) : q := Y ⟨x⟩
theorem Xdy (x : p) (Y : Bx p → q := by
 intro Y
 refine X76 ?_; intro g6 w HL
 refine X5 ?_
 refine xc2 rfl _ rfl HL _ rfl ?_
 clear HL
 intro g7 w HL
 revert g6 g7 w HL
 exact Y.1) : q := Y ⟨x⟩
theorem Xdz (x : p) (Y : Bx p → q := by
 intro Y
 refine xab rfl _ (xan ag23 HL _ rfl _ rfl _ _ (.tail _ (.tail _ (.tail _ (.tail _ (.head _))))) (D32.cl _)) ?_
 exact Y.1) : q := Y ⟨x⟩
theorem Xe0 (x : p) (Y : Bx p → q := by
 intro Y
 refine xac rfl rfl HL (fun W hW => xaf xmn _ rfl _ rfl) ?_
 simp only [Act.put, qf, qg, qh]
 exact Y.1) : q := Y ⟨x⟩
theorem Xe1 (x : p) (Y : Bx p → q := by
 intro Y
 with_reducible refine (xiw x.val y.val lv mv _ (HT1.out.val.below HL.below) (HT2.out.val.below HL.below)).mono ?_
 exact Y.1) : q := Y ⟨x⟩
theorem Xe2 (x : p) (Y : Bx p → q := by
 intro Y
 refine X5 ?_
 refine xac rfl rfl HL (fun W hW => xbf bs208 _ rfl _ (by exact bd208_9 _ _ _)) ?_
 exact Y.1) : q := Y ⟨x⟩
theorem Xe3 (x : p) (Y : Bx p → q := by
 intro Y
 have HL : Loc w0 (Old w0) LB w := HX.drop _ (sB _ _)
 revert HL
 exact Y.1) : q := Y ⟨x⟩
theorem Xe4 (x : p) (Y : Bx p → q := by
 intro Y
 refine xd4 ag208 _ _ rfl HX 0 g10 208 Say.z.cells (⟨x.there, y.there, sm⟩ : Say).cells rfl rfl rfl (Say.len _) (Say.len _) (Say.one _) ?_
 exact Y.1) : q := Y ⟨x⟩
theorem Xe5 (x : p) (Y : Bx p → q := by
 intro Y
 refine xaa rfl _ (xan ag208 HL _ rfl _ rfl _ _ (.head _) (Say.len _)) ?_
 exact Y.1) : q := Y ⟨x⟩
theorem Xe6 (x : p) (Y : Bx p → q := by
 intro Y
 refine xaa rfl _ (xbf bs208 _ rfl _ (by exact bd208_10 )) ?_
 exact Y.1) : q := Y ⟨x⟩
theorem Xe7 (x : p) (Y : Bx p → q := by
 intro Y
 refine X5 ?_
 refine xa6 ag141 rfl _ _ rfl HL 1 _ _ _ _ rfl rfl rfl (Cla.len _) (Cla.len _) (Cla.one _) ?_
 exact Y.1) : q := Y ⟨x⟩
theorem Xe8 (x : p) (Y : Bx p → q := by
 intro Y
 refine bodyPost_ret (xak rfl ag141 _ _ g8 141 _ rfl (HL.blk (.tail _ (.head _))) (Cla.len _)) rfl ?_
 exact Y.1) : q := Y ⟨x⟩
theorem Xe9 (x : p) (Y : Bx p → q := by
 intro Y
 refine xab rfl _ (xaf xr2 _ rfl _ rfl) ?_
 exact Y.1) : q := Y ⟨x⟩
theorem Xea (x : p) (Y : Bx p → q := by
 intro Y
 refine xab rfl _ (xag sc4 HL _ rfl _ _ rfl _ _ _ (.head _) (Say.g_fst _)) ?_
 exact Y.1) : q := Y ⟨x⟩
theorem Xeb (x : p) (Y : Bx p → q := by
 intro Y
 refine rB (Loc.P HL) [] [9, 12] [0, 1, 2, 3, 4, 5, 6, 7, 8, 10, 11, 9, 12, 13, 14, 15] 0 ?_
 exact Y.1) : q := Y ⟨x⟩
theorem Xec (x : p) (Y : Bx p → q := by
 intro Y
 refine xac rfl rfl HL (fun W hW => xaf xr2 _ rfl _ rfl) ?_
 exact Y.1) : q := Y ⟨x⟩
theorem Xed (x : p) (Y : Bx p → q := by
 intro Y
 refine xac rfl rfl HL (fun W hW => xag sc4 hW _ rfl _ _ rfl _ _ _ (.head _) (Say.g_fst _)) ?_
 exact Y.1) : q := Y ⟨x⟩
theorem Xee (x : p) (Y : Bx p → q := by
 intro Y
 refine xac rfl rfl HL (fun W hW => xaf xmw _ rfl _ rfl) ?_
 exact Y.1) : q := Y ⟨x⟩
theorem Xef (x : p) (Y : Bx p → q := by
 intro Y
 refine xac rfl rfl HL (fun W hW => xag sc4 hW _ rfl _ _ rfl _ _ _ (.head _) (Say.g_snd _)) ?_
 exact Y.1) : q := Y ⟨x⟩
theorem Xeg (x : p) (Y : Bx p → q := by
 intro Y
 refine xac rfl rfl HL (fun W hW => xag sc25 hW _ rfl _ _ rfl _ _ _ (.tail _ (.tail _ (.tail _ (.head _)))) (Clm.g_val _)) ?_
 exact Y.1) : q := Y ⟨x⟩
theorem Xeh (x : p) (Y : Bx p → q := by
 intro Y
 refine xac rfl rfl HL (fun W hW => xag sc25 hW _ rfl _ _ rfl _ _ _ (.tail _ (.tail _ (.head _))) (Clm.g_val _)) ?_
 exact Y.1) : q := Y ⟨x⟩
theorem Xei (x : p) (Y : Bx p → q := by
 intro Y
 refine X5w ?_
 with_reducible refine (xks x.val lv _ (HT1.out.val.below HL.below) (by omega)).mono ?_
 exact Y.1) : q := Y ⟨x⟩
theorem Xej (x : p) (Y : Bx p → q := by
 intro Y
 refine X5w ?_
 with_reducible refine (xks y.val mv _ (HT2.out.val.below HL.below) (by omega)).mono ?_
 exact Y.1) : q := Y ⟨x⟩
theorem Xek (x : p) (Y : Bx p → q := by
 intro Y
 obtain ⟨p, q, hp, hq, i, hi1, hi2, hlike, hne, hsha⟩ := acc_part HA1.out HA2.out hdif
 have op := xfl tagE.l tagE.h lb p hp
 revert p q hp hq i hi1 hi2 hlike hne hsha op
 exact Y.1) : q := Y ⟨x⟩
theorem Xel (x : p) (Y : Bx p → q := by
 intro Y
 have hcl : xeh ((xb4 key.l p).getD i []) ((xb4 key.l q).getD i []) = true := xug hne hsha
 revert hcl
 exact Y.1) : q := Y ⟨x⟩
theorem Xem (x : p) (Y : Bx p → q := by
 intro Y
 have CP := fun u h1 h2 => hZ (part_any key x.byt y.byt lb mb p q i u h1 h2 hnb hmb hp hq hi1 hi2 hlike hne)
 revert CP
 exact Y.1) : q := Y ⟨x⟩
theorem Xen (x : p) (Y : Bx p → q := by
 intro Y
 refine xaa rfl _ (xan ag24 HL _ rfl _ rfl _ _ (.tail _ (.tail _ (.tail _ (.tail _ (.head _))))) (D32.cl _)) ?_
 exact Y.1) : q := Y ⟨x⟩
theorem Xeo (x : p) (Y : Bx p → q := by
 intro Y
 refine xaa rfl _ (xag sc25 HL _ rfl _ _ rfl _ _ _ (.tail _ (.tail _ (.tail _ (.head _)))) (Clm.g_byt _)) ?_
 exact Y.1) : q := Y ⟨x⟩
theorem Xep (x : p) (Y : Bx p → q := by
 intro Y
 refine xaa rfl _ (xag sc25 HL _ rfl _ _ rfl _ _ _ (.tail _ (.tail _ (.head _))) (Clm.g_byt _)) ?_
 exact Y.1) : q := Y ⟨x⟩
theorem Xeq (x : p) (Y : Bx p → q := by
 intro Y
 with_reducible refine ((CP _ (HT1.out.byt.below HL.below) (HT2.out.byt.below HL.below)).out).mono ?_
 exact Y.1) : q := Y ⟨x⟩
theorem Xer (x : p) (Y : Bx p → q := by
 intro Y
 refine xa6 ag141 rfl _ _ rfl HL 0 _ _ _ _ rfl rfl rfl (Cla.len _) (Cla.len _) (Cla.one _) ?_
 exact Y.1) : q := Y ⟨x⟩
theorem Xes (x : p) (Y : Bx p → q := by
 intro Y
 refine X3i ?_; intro w HL
 refine X1i ?_
 revert w HL
 exact Y.1) : q := Y ⟨x⟩
theorem Xet (x : p) (Y : Bx p → q := by
 intro Y
 refine xaa rfl _ (xan ag141 HL _ rfl _ rfl _ _ (.head _) (Cla.len _)) ?_
 exact Y.1) : q := Y ⟨x⟩
theorem Xeu (x : p) (Y : Bx p → q := by
 intro Y
 refine xa6 ag141 rfl _ _ rfl HL 2 _ _ _ _ rfl rfl rfl (Cla.len _) (Cla.len _) (Cla.one _) ?_
 exact Y.1) : q := Y ⟨x⟩
theorem Xev (x : p) (Y : Bx p → q := by
 intro Y
 refine bodyPost_ret (xak rfl ag141 _ _ g8 141 _ rfl (HL.blk (.tail _ (.tail _ (.head _)))) (Cla.len _)) rfl ?_
 exact Y.1) : q := Y ⟨x⟩
theorem Xew (x : p) (Y : Bx p → q := by
 intro Y
 refine X3d ?_
 refine X7i ?_
 exact Y.1) : q := Y ⟨x⟩
theorem Xex (x : p) (Y : Bx p → q := by
 intro Y
 refine X5 ?_
 refine xab rfl _ (xag sc4 HL _ rfl _ _ rfl _ _ _ (.head _) (Say.g_snd _)) ?_
 exact Y.1) : q := Y ⟨x⟩
theorem Xey (x : p) (Y : Bx p → q := by
 intro Y
 refine xaa rfl _ (xan ag23 HL _ rfl _ rfl _ _ (.tail _ (.tail _ (.tail _ (.head _)))) (D32.cl _)) ?_
 exact Y.1) : q := Y ⟨x⟩
theorem Xez (x : p) (Y : Bx p → q := by
 intro Y
 refine xaa rfl _ (xan ag39 HL _ rfl _ rfl _ _ (.head _) (Clm.len _)) ?_
 exact Y.1) : q := Y ⟨x⟩
theorem Xf0 (x : p) (Y : Bx p → q := by
 intro Y
 refine xaa rfl _ (xag sc4 HL _ rfl _ _ rfl _ _ _ (.tail _ (.tail _ (.head _))) (Clm.g_there _)) ?_
 exact Y.1) : q := Y ⟨x⟩
theorem Xf1 (x : p) (Y : Bx p → q := by
 intro Y
 refine xaa rfl _ (xag sc4 HL _ rfl _ _ rfl _ _ _ (.tail _ (.head _)) (Clm.g_there _)) ?_
 exact Y.1) : q := Y ⟨x⟩
theorem Xf2 (x : p) (Y : Bx p → q := by
 intro Y
 refine xab rfl _ (xaf xmn _ rfl _ rfl) ?_
 exact Y.1) : q := Y ⟨x⟩
theorem Xf3 (x : p) (Y : Bx p → q := by
 intro Y
 refine xab rfl _ (xag sc25 HL _ rfl _ _ rfl _ _ _ (.tail _ (.tail _ (.head _))) (Clm.g_val _)) ?_
 exact Y.1) : q := Y ⟨x⟩
theorem Xf4 (x : p) (Y : Bx p → q := by
 intro Y
 refine xab rfl _ (xag sc25 HL _ rfl _ _ rfl _ _ _ (.tail _ (.head _)) (Clm.g_val _)) ?_
 exact Y.1) : q := Y ⟨x⟩
theorem Xf5 (x : p) (Y : Bx p → q := by
 intro Y
 with_reducible refine ((CS _ (HT1.out.val.below (HBK _ _ HL)) (HT2.out.val.below (HBK _ _ HL))).out).mono ?_
 exact Y.1) : q := Y ⟨x⟩
theorem Xf6 (x : p) (Y : Bx p → q := by
 intro Y
 refine X5 ?_
 refine xaa rfl _ (xpr _ _ rfl x.there y.there rfl rfl Tryz.underlying4 hth) ?_
 exact Y.1) : q := Y ⟨x⟩
theorem Xf7 (x : p) (Y : Bx p → q := by
 intro Y
 refine X1b ?_
 refine xab rfl _ (xan ag141 HL _ rfl _ rfl _ _ (.head _) (Cla.len _)) ?_
 exact Y.1) : q := Y ⟨x⟩
theorem Xf8 (x : p) (Y : Bx p → q := by
 intro Y
 refine X1z ?_
 with_reducible refine ((CX _ (ht.keep HL hf1 hfr) (hu.keep HL hf2 hfr)).out).mono ?_
 exact Y.1) : q := Y ⟨x⟩
theorem Xf9 (x : p) (Y : Bx p → q := by
 intro Y
 refine Xv ?_
 refine xaa rfl _ (xc8 bs39 rfl) ?_
 exact Y.1) : q := Y ⟨x⟩
theorem Xfa (x : p) (Y : Bx p → q := by
 intro Y
 refine xa6 ag39 rfl _ _ rfl HL 1 _ _ _ _ rfl rfl rfl (Clm.len _) (Clm.len _) (Clm.one _) ?_
 exact Y.1) : q := Y ⟨x⟩
theorem Xfb (x : p) (Y : Bx p → q := by
 intro Y
 refine bodyPost_ret (xak rfl ag39 _ _ g8 39 _ rfl (HL.blk (.tail _ (.head _))) (Clm.len _)) rfl ?_
 exact Y.1) : q := Y ⟨x⟩
theorem Xfc (x : p) (Y : Bx p → q := by
 intro Y
 refine xab rfl _ (xbi (b := false) _ _ rfl _ _ rfl rfl rfl) ?_
 exact Y.1) : q := Y ⟨x⟩
theorem Xfd (x : p) (Y : Bx p → q := by
 intro Y
 with_reducible refine ((CP _ (HV.out.below HL.below) (hG1.tx (L0 := [_, _, _, _, _]) HL)).out).mono ?_
 exact Y.1) : q := Y ⟨x⟩
theorem Xfe (x : p) (Y : Bx p → q := by
 intro Y
 refine xaa rfl _ (xaf xrw _ rfl _ rfl) ?_
 exact Y.1) : q := Y ⟨x⟩
theorem Xff (x : p) (Y : Bx p → q := by
 intro Y
 refine xaa rfl _ (xag sc4 HL _ rfl _ _ rfl _ _ _ (.head _) (Sai.g_there _)) ?_
 refine X17 ?_
 exact Y.1) : q := Y ⟨x⟩
theorem Xfg (x : p) (Y : Bx p → q := by
 intro Y
 refine xa6 ag39 rfl _ _ rfl HL 0 _ _ _ _ rfl rfl rfl (Clm.len _) (Clm.len _) (Clm.one _) ?_
 exact Y.1) : q := Y ⟨x⟩
theorem Xfh (x : p) (Y : Bx p → q := by
 intro Y
 refine xaa rfl _ (xag sc4 HL _ rfl _ _ rfl _ _ _ (.tail _ (.head _)) (Sai.g_there _)) ?_
 exact Y.1) : q := Y ⟨x⟩
theorem Xfi (x : p) (Y : Bx p → q := by
 intro Y
 refine X5 ?_
 refine xa6 ag39 rfl _ _ rfl HL 2 _ _ _ _ rfl rfl rfl (Clm.len _) (Clm.len _) (Clm.one _) ?_
 exact Y.1) : q := Y ⟨x⟩
theorem Xfj (x : p) (Y : Bx p → q := by
 intro Y
 refine bodyPost_ret (xak rfl ag39 _ _ g8 39 _ rfl (HL.blk (.tail _ (.tail _ (.head _)))) (Clm.len _)) rfl ?_
 exact Y.1) : q := Y ⟨x⟩
theorem Xfk (x : p) (Y : Bx p → q := by
 intro Y
 refine xaa rfl _ (xaf xmq _ rfl _ rfl) ?_
 refine X5 ?_
 refine xaa rfl _ (xag sc30 HL _ rfl _ _ rfl _ _ _ (.head _) (Brv.g_kind _)) ?_
 exact Y.1) : q := Y ⟨x⟩
theorem Xfl (x : p) (Y : Bx p → q := by
 intro Y
 refine Xv ?_
 refine Xfk ?_
 exact Y.1) : q := Y ⟨x⟩
theorem Xfm (x : p) (Y : Bx p → q := by
 intro Y
 refine Xfl ?_
 refine X22 ?_
 exact Y.1) : q := Y ⟨x⟩
theorem Xfn (x : p) (Y : Bx p → q := by
 intro Y
 refine xaa rfl _ (xao (b := true) _ _ rfl _ _ rfl rfl k0) ?_
 exact Y.1) : q := Y ⟨x⟩
theorem Xfo (x : p) (Y : Bx p → q := by
 intro Y
 refine xaa rfl _ (xan xoi HL _ rfl _ rfl _ _ (.head _) (Brv.len _)) ?_
 exact Y.1) : q := Y ⟨x⟩
theorem Xfp (x : p) (Y : Bx p → q := by
 intro Y
 refine Xfo ?_
 simp only [Act.put, qf, qg, qh]
 exact Y.1) : q := Y ⟨x⟩
theorem Xfq (x : p) (Y : Bx p → q := by
 intro Y
 refine Xv ?_
 refine Xfp ?_
 exact Y.1) : q := Y ⟨x⟩
theorem Xfr (x : p) (Y : Bx p → q := by
 intro Y
 refine Xfq ?_
 refine Xfk ?_
 exact Y.1) : q := Y ⟨x⟩
theorem Xfs (x : p) (Y : Bx p → q := by
 intro Y
 refine xaa rfl _ (xbf bs124 _ rfl _ (by exact bd124_14 _)) ?_
 simp only [Act.put, qf, qg, qh]
 exact Y.1) : q := Y ⟨x⟩
theorem Xft (x : p) (Y : Bx p → q := by
 intro Y
 refine Xfs ?_
 refine xaa rfl _ (xko _ _ rfl b ⟨b.kind, D32.z, D32.z, D32.z⟩ rfl rfl r hr) ?_
 refine X1c ?_
 exact Y.1) : q := Y ⟨x⟩
theorem Xfu (x : p) (Y : Bx p → q := by
 intro Y
 refine Xv ?_
 refine X9t ?_
 refine X1c ?_
 exact Y.1) : q := Y ⟨x⟩
theorem Xfv (x : p) (Y : Bx p → q := by
 intro Y
 refine xaa rfl _ (xao (b := true) _ _ rfl _ _ rfl rfl k2) ?_
 exact Y.1) : q := Y ⟨x⟩
theorem Xfw (x : p) (Y : Bx p → q := by
 intro Y
 refine xaa rfl _ (xao (b := false) _ _ rfl _ _ rfl rfl k2) ?_
 exact Y.1) : q := Y ⟨x⟩
theorem Xfx (x : p) (Y : Bx p → q := by
 intro Y
 refine Xv ?_
 refine Xfw ?_
 refine X1c ?_
 exact Y.1) : q := Y ⟨x⟩
theorem Xfy (x : p) (Y : Bx p → q := by
 intro Y
 refine xaa rfl _ (xao (b := true) _ _ rfl _ _ rfl rfl k1) ?_
 exact Y.1) : q := Y ⟨x⟩
theorem Xfz (x : p) (Y : Bx p → q := by
 intro Y
 refine xaa rfl _ (xaf xry _ rfl _ rfl) ?_
 exact Y.1) : q := Y ⟨x⟩
theorem Xg0 (x : p) (Y : Bx p → q := by
 intro Y
 refine Xfz ?_
 refine X5 ?_
 refine xaa rfl _ (xau ag23 HL _ rfl _ _ rfl _ _ _ (.head _) (Brv.g_dig _) (D32.cl _)) ?_
 exact Y.1) : q := Y ⟨x⟩
theorem Xg1 (x : p) (Y : Bx p → q := by
 intro Y
 refine Xv ?_
 refine Xg0 ?_
 exact Y.1) : q := Y ⟨x⟩
theorem Xg2 (x : p) (Y : Bx p → q := by
 intro Y
 refine xaa rfl _ (xcn ab25 _ _ rfl b.dig D32.z rfl rfl r hr) ?_
 exact Y.1) : q := Y ⟨x⟩
theorem Xg3 (x : p) (Y : Bx p → q := by
 intro Y
 refine X9u ?_
 refine X1c ?_
 exact Y.1) : q := Y ⟨x⟩
theorem Xg4 (x : p) (Y : Bx p → q := by
 intro Y
 refine xaa rfl _ (xao (b := true) _ _ rfl _ _ rfl rfl k3) ?_
 exact Y.1) : q := Y ⟨x⟩
theorem Xg5 (x : p) (Y : Bx p → q := by
 intro Y
 refine xaa rfl _ (xbf bs124 _ rfl _ (by exact bd124_15 _)) ?_
 exact Y.1) : q := Y ⟨x⟩
theorem Xg6 (x : p) (Y : Bx p → q := by
 intro Y
 refine xaa rfl _ (xko _ _ rfl b ⟨3, D32.z, D32.z, b.dig⟩ rfl rfl r hr) ?_
 exact Y.1) : q := Y ⟨x⟩
theorem Xg7 (x : p) (Y : Bx p → q := by
 intro Y
 refine xaa rfl _ (xao (b := false) _ _ rfl _ _ rfl rfl k3) ?_
 exact Y.1) : q := Y ⟨x⟩
theorem Xg8 (x : p) (Y : Bx p → q := by
 intro Y
 refine xaa rfl _ (xa8 Tryz.underlying192 _ rfl _ _ _ rfl) ?_
 exact Y.1) : q := Y ⟨x⟩
theorem Xg9 (x : p) (Y : Bx p → q := by
 intro Y
 refine xaa rfl _ (xag xjy HL _ rfl _ _ rfl _ _ _ (.head _) rfl) ?_
 exact Y.1) : q := Y ⟨x⟩
theorem Xga (x : p) (Y : Bx p → q := by
 intro Y
 refine xaw xjy rfl _ _ rfl HL 0 _ _ _ _ _ _ rfl rfl rfl rfl (by simp) (rfl) ?_
 exact Y.1) : q := Y ⟨x⟩
theorem Xgb (x : p) (Y : Bx p → q := by
 intro Y
 refine xaa rfl _ (xaf xmo _ rfl _ rfl) ?_
 simp only [Act.put, qf, qg, qh]
 exact Y.1) : q := Y ⟨x⟩
theorem Xgc (x : p) (Y : Bx p → q := by
 intro Y
 refine Xv ?_
 refine Xgb ?_
 exact Y.1) : q := Y ⟨x⟩
theorem Xgd (x : p) (Y : Bx p → q := by
 intro Y
 refine Xgc ?_
 refine xaa rfl _ (xag sc42 HL _ rfl _ _ rfl _ _ _ (.head _) rfl) ?_
 exact Y.1) : q := Y ⟨x⟩
theorem Xge (x : p) (Y : Bx p → q := by
 intro Y
 refine X5 ?_
 refine xaa rfl _ (xa8 Tryz.underlying42 _ rfl _ _ _ rfl) ?_
 exact Y.1) : q := Y ⟨x⟩
theorem Xgf (x : p) (Y : Bx p → q := by
 intro Y
 refine Xge ?_
 simp only [Act.put, qf, qg, qh]
 exact Y.1) : q := Y ⟨x⟩
theorem Xgg (x : p) (Y : Bx p → q := by
 intro Y
 refine xds xok el3 1 _ rfl HL [.int .i64 0] (by simp [Value.oneCell']) rfl (by omega) (by omega) (by simp [Act.eval]) ?_
 exact Y.1) : q := Y ⟨x⟩
theorem Xgh (x : p) (Y : Bx p → q := by
 intro Y
 refine xaa rfl _ (xcj _ _ rfl _ _ rfl rfl k5) ?_
 refine X22 ?_
 exact Y.1) : q := Y ⟨x⟩
theorem Xgi (x : p) (Y : Bx p → q := by
 intro Y
 refine xaa rfl _ (xay xoi _ rfl _ b.cells rfl (HL.rdO HE.out) (by omega) (Brv.len _)) ?_
 exact Y.1) : q := Y ⟨x⟩
theorem Xgj (x : p) (Y : Bx p → q := by
 intro Y
 refine xa6 xoi rfl _ _ rfl HL 0 _ _ _ _ rfl rfl rfl (Brv.len _) (Brv.len _) (Brv.one _) ?_
 refine X3j ?_; intro w HL
 revert w HL
 exact Y.1) : q := Y ⟨x⟩
theorem Xgk (x : p) (Y : Bx p → q := by
 intro Y
 refine X5 ?_
 refine Xgj ?_; intro w HL
 revert w HL
 exact Y.1) : q := Y ⟨x⟩
theorem Xgl (x : p) (Y : Bx p → q := by
 intro Y
 refine X1z ?_
 with_reducible refine ((CC _).out).mono ?_
 exact Y.1) : q := Y ⟨x⟩
theorem Xgm (x : p) (Y : Bx p → q := by
 intro Y
 refine Xgl ?_
 refine X5x ?_; intro w HL
 revert w HL
 exact Y.1) : q := Y ⟨x⟩
theorem Xgn (x : p) (Y : Bx p → q := by
 intro Y
 refine xab rfl _ (xaf xmq _ rfl _ rfl) ?_
 exact Y.1) : q := Y ⟨x⟩
theorem Xgo (x : p) (Y : Bx p → q := by
 intro Y
 refine xab rfl _ (xag sc30 HL _ rfl _ _ rfl _ _ _ (.head _) (Brv.g_kind _)) ?_
 exact Y.1) : q := Y ⟨x⟩
theorem Xgp (x : p) (Y : Bx p → q := by
 intro Y
 refine Xv ?_
 refine xaa rfl _ (xag xjy HL _ rfl _ _ rfl _ _ _ (.tail _ (.head _)) rfl) ?_
 exact Y.1) : q := Y ⟨x⟩
theorem Xgq (x : p) (Y : Bx p → q := by
 intro Y
 refine xaa rfl _ (xbr _ _ rfl _ _ _ rfl rfl HA1.out (by omega)) ?_
 refine X5 ?_
 refine xaa rfl _ (xbv _ _ rfl _ _ _ rfl rfl HA2.out (by omega)) ?_
 exact Y.1) : q := Y ⟨x⟩
theorem Xgr (x : p) (Y : Bx p → q := by
 intro Y
 refine xaa rfl _ (xag sc42 HL _ rfl _ _ rfl _ _ _ (.tail _ (.head _)) rfl) ?_
 exact Y.1) : q := Y ⟨x⟩
theorem Xgs (x : p) (Y : Bx p → q := by
 intro Y
 have H2M : Hid ((2 : Int) * (m : Int) = ((2 * m : Nat) : Int)) := hZ (by omega)
 have H6M : Hid ((6 : Int) - ((2 * m : Nat) : Int) = ((6 - 2 * m : Nat) : Int)) := hZ (by omega)
 revert H2M H6M
 exact Y.1) : q := Y ⟨x⟩
theorem Xgt (x : p) (Y : Bx p → q := by
 intro Y
 refine xaa rfl _ (xcj _ _ rfl _ _ rfl rfl k3) ?_
 exact Y.1) : q := Y ⟨x⟩
theorem Xgu (x : p) (Y : Bx p → q := by
 intro Y
 refine Xgt ?_
 refine X22 ?_
 exact Y.1) : q := Y ⟨x⟩
theorem Xgv (x : p) (Y : Bx p → q := by
 intro Y
 refine X5 ?_
 refine xac rfl rfl HL (fun W hW => xbe sl25 _ _ rfl g14 NB NB q .i64 rfl rfl hqn) ?_
 exact Y.1) : q := Y ⟨x⟩
theorem Xgw (x : p) (Y : Bx p → q := by
 intro Y
 refine xaa rfl _ (xao (b := true) _ _ rfl _ _ rfl rfl k11) ?_
 exact Y.1) : q := Y ⟨x⟩
theorem Xgx (x : p) (Y : Bx p → q := by
 intro Y
 refine xac rfl rfl HL (fun W hW => xaf xmr _ rfl _ rfl) ?_
 exact Y.1) : q := Y ⟨x⟩
theorem Xgy (x : p) (Y : Bx p → q := by
 intro Y
 refine xac rfl rfl HL (fun W hW => xaf xrx _ rfl _ rfl) ?_
 exact Y.1) : q := Y ⟨x⟩
theorem Xgz (x : p) (Y : Bx p → q := by
 intro Y
 refine xaa rfl _ (xao (b := false) _ _ rfl _ _ rfl rfl k11) ?_
 refine X1c ?_
 exact Y.1) : q := Y ⟨x⟩
theorem Xh0 (x : p) (Y : Bx p → q := by
 intro Y
 refine Xv ?_
 refine xaa rfl _ (xag xjy HL _ rfl _ _ rfl _ _ _ hmd rfl) ?_
 exact Y.1) : q := Y ⟨x⟩
theorem Xh1 (x : p) (Y : Bx p → q := by
 intro Y
 refine xaa rfl _ (xfp _ _ rfl nk 4 rfl rfl (by omega) (by omega) q HQ.out) ?_
 exact Y.1) : q := Y ⟨x⟩
theorem Xh2 (x : p) (Y : Bx p → q := by
 intro Y
 refine xaa rfl _ (xc3 _ _ rfl _ _ rfl rfl k5) ?_
 exact Y.1) : q := Y ⟨x⟩
theorem Xh3 (x : p) (Y : Bx p → q := by
 intro Y
 have HSV : Hid (Value.slice A n c = .slice (some ad) n c) := hZ (by rw [hA])
 revert HSV
 exact Y.1) : q := Y ⟨x⟩
theorem Xh4 (x : p) (Y : Bx p → q := by
 intro Y
 refine xaa rfl _ (xan ag44 HL _ rfl _ rfl _ _ (.head _) rfl) ?_
 exact Y.1) : q := Y ⟨x⟩
theorem Xh5 (x : p) (Y : Bx p → q := by
 intro Y
 refine xaa rfl _ (xa8 Tryz.underlying118 _ rfl _ _ _ rfl) ?_
 exact Y.1) : q := Y ⟨x⟩
theorem Xh6 (x : p) (Y : Bx p → q := by
 intro Y
 refine xaa rfl _ (xao (b := true) _ _ rfl _ _ rfl rfl k9) ?_
 exact Y.1) : q := Y ⟨x⟩
theorem Xh7 (x : p) (Y : Bx p → q := by
 intro Y
 refine rB (Loc.P HL) [] [3, 4] [0, 1, 2, 3, 4] 0 ?_
 refine X37 ?_; intro HL
 revert HL
 exact Y.1) : q := Y ⟨x⟩
theorem Xh8 (x : p) (Y : Bx p → q := by
 intro Y
 with_reducible refine (xf2 (i := 2) HX.drew rfl hR 32 (by omega) hST1).mono ?_
 exact Y.1) : q := Y ⟨x⟩
theorem Xh9 (x : p) (Y : Bx p → q := by
 intro Y
 refine xlu sl42 el124 (by decide) rfl _ rfl HL _ rfl (Brv.len _) ?_
 intro g51 w HL
 revert g51 w HL
 exact Y.1) : q := Y ⟨x⟩
theorem Xha (x : p) (Y : Bx p → q := by
 intro Y
 refine xam sl42 el124 _ _ rfl (_ :: _ :: _ :: _ :: _ :: []) _ sp _ hG HL rfl ⟨g51, 0, none⟩ 1 1 b.cells rfl (Rd.of_blk0 (es := []) (by simpa using HL.blk (.head _))) (Brv.len _) (Brv.one _) (by omega) (by omega) (by omega) ?_
 exact Y.1) : q := Y ⟨x⟩
theorem Xhb (x : p) (Y : Bx p → q := by
 intro Y
 refine xaw sc42 rfl _ _ rfl HL 2 g7 0 44 _ [Sv.v sp'] (Sv.v sp') rfl rfl rfl rfl (by simp) rfl ?_
 exact Y.1) : q := Y ⟨x⟩
theorem Xhc (x : p) (Y : Bx p → q := by
 intro Y
 refine xaa rfl _ (xao (b := false) _ _ rfl _ _ rfl rfl k9) ?_
 refine X1c ?_
 exact Y.1) : q := Y ⟨x⟩
theorem Xhd (x : p) (Y : Bx p → q := by
 intro Y
 refine Xv ?_
 refine Xhc ?_
 exact Y.1) : q := Y ⟨x⟩
theorem Xhe (x : p) (Y : Bx p → q := by
 intro Y
 refine xaa rfl _ (xc8 bs44 rfl) ?_
 exact Y.1) : q := Y ⟨x⟩
theorem Xhf (x : p) (Y : Bx p → q := by
 intro Y
 refine xa6 ag44 rfl _ _ rfl HL 2 _ _ _ _ rfl rfl rfl (rfl) (rfl) ((by simp [Value.oneCell'])) ?_
 exact Y.1) : q := Y ⟨x⟩
theorem Xhg (x : p) (Y : Bx p → q := by
 intro Y
 refine bodyPost_ret (xak rfl ag44 _ _ g2 44 _ rfl (HL.blk (.tail _ (.tail _ (.head _)))) rfl) rfl ?_
 exact Y.1) : q := Y ⟨x⟩
theorem Xhh (x : p) (Y : Bx p → q := by
 intro Y
 refine xaa rfl _ (xao (b := false) _ _ rfl _ _ rfl rfl k16) ?_
 refine X1o ?_
 exact Y.1) : q := Y ⟨x⟩
theorem Xhi (x : p) (Y : Bx p → q := by
 intro Y
 refine X5a ?_
 refine xab rfl _ (xan ag44 HL _ rfl _ rfl _ _ (.head _) rfl) ?_
 exact Y.1) : q := Y ⟨x⟩
theorem Xhj (x : p) (Y : Bx p → q := by
 intro Y
 refine xaa rfl _ (xa8 Tryz.underlying26 _ rfl _ _ _ rfl) ?_
 exact Y.1) : q := Y ⟨x⟩
theorem Xhk (x : p) (Y : Bx p → q := by
 intro Y
 refine Xhj ?_
 simp only [Act.put, qf, qg, qh]
 exact Y.1) : q := Y ⟨x⟩
theorem Xhl (x : p) (Y : Bx p → q := by
 intro Y
 refine X1b ?_
 refine Xhk ?_
 exact Y.1) : q := Y ⟨x⟩
theorem Xhm (x : p) (Y : Bx p → q := by
 intro Y
 refine X28 ?_
 refine xab rfl _ (xaz sl26 (.tmp 11) _ rfl ad n c i .i64 HSV.out rfl hlt) ?_
 exact Y.1) : q := Y ⟨x⟩
theorem Xhn (x : p) (Y : Bx p → q := by
 intro Y
 refine xab rfl _ (xay ag24 _ rfl _ ks[i].c rfl (HL.rdO HE.out) (by omega) (D32.cl _)) ?_
 exact Y.1) : q := Y ⟨x⟩
theorem Xho (x : p) (Y : Bx p → q := by
 intro Y
 refine X1b ?_
 refine xaa rfl _ (xcj _ _ rfl _ _ rfl rfl k2) ?_
 refine X22 ?_
 exact Y.1) : q := Y ⟨x⟩
theorem Xhp (x : p) (Y : Bx p → q := by
 intro Y
 refine Xfl ?_
 simp only [Act.put, qf, qg, qh]
 exact Y.1) : q := Y ⟨x⟩
theorem Xhq (x : p) (Y : Bx p → q := by
 intro Y
 refine xac rfl rfl HL (fun W hW => xaf xmv _ rfl _ rfl) ?_
 exact Y.1) : q := Y ⟨x⟩
theorem Xhr (x : p) (Y : Bx p → q := by
 intro Y
 refine xac rfl rfl HL (fun W hW => xag sc128 hW _ rfl _ _ rfl _ _ _ (.tail _ (.head _)) (xrf _ _ _)) ?_
 exact Y.1) : q := Y ⟨x⟩
theorem Xhs (x : p) (Y : Bx p → q := by
 intro Y
 refine Xgx ?_
 simp only [Act.put, qf, qg, qh]
 exact Y.1) : q := Y ⟨x⟩
theorem Xht (x : p) (Y : Bx p → q := by
 intro Y
 have HL := HX.drop [(g5, 23, h.c), (gr, 199, rdrC rest tagE ⟨some ⟨gw, 0, none⟩, n, n⟩), (gw, 34, (ys ++ x :: zs').flatMap Prv.cells)] (by simp)
 revert HL
 exact Y.1) : q := Y ⟨x⟩
theorem Xhu (x : p) (Y : Bx p → q := by
 intro Y
 refine xac rfl rfl HL (fun W hW => xcr xh8 _ rfl _ _ rfl) ?_
 exact Y.1) : q := Y ⟨x⟩
theorem Xhv (x : p) (Y : Bx p → q := by
 intro Y
 refine xdu sl29 el23 (by decide) _ rfl HX.drew _ rfl (D32.cl _) ?_
 exact Y.1) : q := Y ⟨x⟩
theorem Xhw (x : p) (Y : Bx p → q := by
 intro Y
 refine xc2 rfl _ rfl HL _ rfl ?_
 intro g10 w HL
 revert g10 w HL
 exact Y.1) : q := Y ⟨x⟩
theorem Xhx (x : p) (Y : Bx p → q := by
 intro Y
 refine Xv ?_
 refine Xhw ?_; intro g10 w HL
 simp only [Act.put, qf, qg, qh]
 revert g10 w HL
 exact Y.1) : q := Y ⟨x⟩
theorem Xhy (x : p) (Y : Bx p → q := by
 intro Y
 refine xah zr23 rfl rfl HL ?_
 intro g12 w HL
 revert g12 w HL
 exact Y.1) : q := Y ⟨x⟩
theorem Xhz (x : p) (Y : Bx p → q := by
 intro Y
 refine Xhx ?_; intro g10 w HL
 refine Xhy ?_; clear HL; intro g12 w HL
 refine X1c ?_
 revert g10 g12 w HL
 exact Y.1) : q := Y ⟨x⟩
theorem Xi0 (x : p) (Y : Bx p → q := by
 intro Y
 refine xaa rfl _ (xaf xr1 _ rfl _ rfl) ?_
 simp only [Act.put, qf, qg, qh]
 exact Y.1) : q := Y ⟨x⟩
theorem Xi1 (x : p) (Y : Bx p → q := by
 intro Y
 refine X16 ?_
 refine Xi0 ?_
 refine xaa rfl _ (xag sc42 HL _ rfl _ _ rfl _ _ _ (.tail _ (.tail _ (.head _))) (xnn _ _ _)) ?_
 exact Y.1) : q := Y ⟨x⟩
theorem Xi2 (x : p) (Y : Bx p → q := by
 intro Y
 refine Xv ?_
 refine Xc2 ?_
 exact Y.1) : q := Y ⟨x⟩
theorem Xi3 (x : p) (Y : Bx p → q := by
 intro Y
 refine Xf ?_
 refine bodyPost_ret (xak rfl ag23 _ _ g12 23 _ rfl (HL.blk (.head _)) (D32.cl _)) rfl ?_
 exact Y.1) : q := Y ⟨x⟩
theorem Xi4 (x : p) (Y : Bx p → q := by
 intro Y
 refine Xgf ?_
 refine X9u ?_
 refine X1q ?_
 exact Y.1) : q := Y ⟨x⟩
theorem Xi5 (x : p) (Y : Bx p → q := by
 intro Y
 refine xab rfl _ (xaf xr1 _ rfl _ rfl) ?_
 simp only [Act.put, qf, qg, qh]
 exact Y.1) : q := Y ⟨x⟩
theorem Xi6 (x : p) (Y : Bx p → q := by
 intro Y
 refine Xi1 ?_
 refine Xi4 ?_
 refine Xi5 ?_
 refine xab rfl _ (xag sc42 HL _ rfl _ _ rfl _ _ _ (.tail _ (.tail _ (.head _))) (xnn _ _ _)) ?_
 simp only [Act.put, qf, qg, qh]
 exact Y.1) : q := Y ⟨x⟩
theorem Xi7 (x : p) (Y : Bx p → q := by
 intro Y
 refine X5 ?_
 refine xab rfl _ (xay xoi _ rfl _ b.cells rfl (hbrd _ _ HL) (by omega) (Brv.len _)) ?_
 refine X5p ?_; intro K hK
 revert K hK
 exact Y.1) : q := Y ⟨x⟩
theorem Xi8 (x : p) (Y : Bx p → q := by
 intro Y
 refine xab rfl _ (xaz sl42 (.tmp 33) _ rfl ad rest.n rest.c 0 .i64 HSV.out rfl hr0) ?_
 refine Xi7 ?_; intro K hK
 refine xad cf166 rfl _ rfl ?_
 revert K hK
 exact Y.1) : q := Y ⟨x⟩
theorem Xi9 (x : p) (Y : Bx p → q := by
 intro Y
 refine Xgm ?_; intro w HL
 refine Xb1 ?_
 revert w HL
 exact Y.1) : q := Y ⟨x⟩
theorem Xia (x : p) (Y : Bx p → q := by
 intro Y
 refine Xi6 ?_
 refine Xi8 ?_; intro K hK
 refine Xi9 ?_; clear hK K; intro w HL
 revert w HL
 exact Y.1) : q := Y ⟨x⟩
theorem Xib (x : p) (Y : Bx p → q := by
 intro Y
 refine X5 ?_
 refine xaa rfl _ (xay xoi _ rfl _ b.cells rfl (hbrd _ _ HL) (by omega) (Brv.len _)) ?_
 simp only [Act.put, qf, qg, qh]
 exact Y.1) : q := Y ⟨x⟩
theorem Xic (x : p) (Y : Bx p → q := by
 intro Y
 refine Xi1 ?_
 refine X5 ?_
 refine xaa rfl _ (xaz sl42 (.tmp 43) _ rfl ad rest.n rest.c 0 .i64 HSV.out rfl hr0) ?_
 refine Xib ?_
 refine xah xls rfl rfl HL ?_
 intro g14 w HL
 refine Xgk ?_; clear HL; intro w HL
 revert g14 w HL
 exact Y.1) : q := Y ⟨x⟩
theorem Xid (x : p) (Y : Bx p → q := by
 intro Y
 refine X3o ?_
 refine Xi0 ?_
 refine xaa rfl _ (xag sc42 HL _ rfl _ _ rfl _ _ _ (.tail _ (.tail _ (.tail _ (.head _)))) (xnn _ _ _)) ?_
 refine X5 ?_
 refine xaa rfl _ (xb3 sl42 (.tmp 50) _ rfl rest.A rest.n rest.c 1 .i64 rfl rfl hr0) ?_
 refine X18 ?_
 refine Xi0 ?_
 exact Y.1) : q := Y ⟨x⟩
theorem Xie (x : p) (Y : Bx p → q := by
 intro Y
 refine X2y ?_; intro w HL
 have HT := hB.tail
 revert w HL HT
 exact Y.1) : q := Y ⟨x⟩
theorem Xif (x : p) (Y : Bx p → q := by
 intro Y
 refine Xf ?_
 refine bodyPost_ret (xak rfl ag23 _ _ g12 23 _ rfl (HL.blk (.tail _ (.head _))) (D32.cl _)) rfl ?_
 exact Y.1) : q := Y ⟨x⟩
theorem Xig (x : p) (Y : Bx p → q := by
 intro Y
 refine xaa rfl _ (xa4 (b := true) _ _ rfl _ _ rfl rfl k5) ?_
 exact Y.1) : q := Y ⟨x⟩
theorem Xih (x : p) (Y : Bx p → q := by
 intro Y
 refine xaa rfl _ (xao (b := false) _ _ rfl _ _ rfl rfl k7) ?_
 refine X1c ?_
 exact Y.1) : q := Y ⟨x⟩
theorem Xii (x : p) (Y : Bx p → q := by
 intro Y
 refine Xv ?_
 refine Xih ?_
 exact Y.1) : q := Y ⟨x⟩
theorem Xij (x : p) (Y : Bx p → q := by
 intro Y
 refine xaa rfl _ (xa4 (b := false) _ _ rfl _ _ rfl rfl k5) ?_
 exact Y.1) : q := Y ⟨x⟩
theorem Xik (x : p) (Y : Bx p → q := by
 intro Y
 with_reducible refine (end_any gr gw rest1 n xs Gs M b lo hi _ hW HXL.out hlh (by omega) (Loc.lend (Loc.inY [_, _, _] HL))).mono ?_
 exact Y.1) : q := Y ⟨x⟩
theorem Xil (x : p) (Y : Bx p → q := by
 intro Y
 refine xaa rfl _ (xaf xmr _ rfl _ rfl) ?_
 exact Y.1) : q := Y ⟨x⟩
theorem Xim (x : p) (Y : Bx p → q := by
 intro Y
 refine xaa rfl _ (xau ag24 HL _ rfl _ _ rfl _ _ _ (.head _) (Brv.g_key _) (D32.cl _)) ?_
 exact Y.1) : q := Y ⟨x⟩
theorem Xin (x : p) (Y : Bx p → q := by
 intro Y
 refine xaa rfl _ (xaf xrx _ rfl _ rfl) ?_
 exact Y.1) : q := Y ⟨x⟩
theorem Xio (x : p) (Y : Bx p → q := by
 intro Y
 refine xaa rfl _ (xau ag23 HL _ rfl _ _ rfl _ _ _ (.head _) (Brv.g_val _) (D32.cl _)) ?_
 exact Y.1) : q := Y ⟨x⟩
theorem Xip (x : p) (Y : Bx p → q := by
 intro Y
 refine X63 ?_
 with_reducible refine (xm7 _ b.key b.val).mono ?_
 exact Y.1) : q := Y ⟨x⟩
theorem Xiq (x : p) (Y : Bx p → q := by
 intro Y
 refine xab rfl _ (xan ag24 HL _ rfl _ rfl _ _ (.tail _ (.tail _ (.head _))) (D32.cl _)) ?_
 exact Y.1) : q := Y ⟨x⟩
theorem Xir (x : p) (Y : Bx p → q := by
 intro Y
 refine Xch ?_
 with_reducible refine ((CU _).out).mono ?_
 exact Y.1) : q := Y ⟨x⟩
theorem Xis (x : p) (Y : Bx p → q := by
 intro Y
 refine xab rfl _ (xc3 _ _ rfl _ _ rfl rfl k14) ?_
 exact Y.1) : q := Y ⟨x⟩
theorem Xit (x : p) (Y : Bx p → q := by
 intro Y
 refine Xi2 ?_
 refine X56 ?_
 exact Y.1) : q := Y ⟨x⟩
theorem Xiu (x : p) (Y : Bx p → q := by
 intro Y
 refine xaa rfl _ (xbr _ _ rfl _ _ _ rfl rfl HD1.out (by omega)) ?_
 exact Y.1) : q := Y ⟨x⟩
theorem Xiv (x : p) (Y : Bx p → q := by
 intro Y
 refine X6h ?_
 refine X4k ?_; intro w HL
 revert w HL
 exact Y.1) : q := Y ⟨x⟩
theorem Xiw (x : p) (Y : Bx p → q := by
 intro Y
 with_reducible refine (xhm _ l r).mono ?_
 exact Y.1) : q := Y ⟨x⟩
theorem Xix (x : p) (Y : Bx p → q := by
 intro Y
 refine X5 ?_
 refine xa6 ag23 rfl _ _ rfl HL 2 _ _ _ _ rfl rfl rfl (D32.cl _) (D32.cl _) (D32.c1 _) ?_
 exact Y.1) : q := Y ⟨x⟩
theorem Xiy (x : p) (Y : Bx p → q := by
 intro Y
 refine X5z ?_
 refine Xes ?_; intro w HL
 revert w HL
 exact Y.1) : q := Y ⟨x⟩
theorem Xiz (x : p) (Y : Bx p → q := by
 intro Y
 refine bodyPost_ret (xgf rfl ag23 _ _ g4 23 _ rfl (HL.blk (.head _)) (D32.cl _)) rfl ?_
 exact Y.1) : q := Y ⟨x⟩
theorem Xj0 (x : p) (Y : Bx p → q := by
 intro Y
 refine Xhk ?_
 refine xaa rfl _ (xa4 (b := false) _ _ rfl _ _ rfl rfl k2) ?_
 exact Y.1) : q := Y ⟨x⟩
theorem Xj1 (x : p) (Y : Bx p → q := by
 intro Y
 refine X5 ?_
 refine xab rfl _ (xag sc42 HL _ rfl _ _ rfl _ _ _ (.tail _ (.head _)) rfl) ?_
 exact Y.1) : q := Y ⟨x⟩
theorem Xj2 (x : p) (Y : Bx p → q := by
 intro Y
 refine xab rfl _ (xa8 Tryz.underlying42 _ rfl _ _ _ rfl) ?_
 exact Y.1) : q := Y ⟨x⟩
theorem Xj3 (x : p) (Y : Bx p → q := by
 intro Y
 refine xaa rfl _ (xcj _ _ rfl _ _ rfl rfl k4) ?_
 exact Y.1) : q := Y ⟨x⟩
theorem Xj4 (x : p) (Y : Bx p → q := by
 intro Y
 refine xac rfl rfl HL (fun W hW => xbv _ _ rfl _ _ _ rfl rfl HI.out (by omega)) ?_
 simp only [Act.put, qf, qg, qh]
 exact Y.1) : q := Y ⟨x⟩
theorem Xj5 (x : p) (Y : Bx p → q := by
 intro Y
 refine xac rfl rfl HL (fun W hW => xay ag24 _ rfl _ ka.c rfl (hW.rdO HE1.out) (by omega) (D32.cl _)) ?_
 exact Y.1) : q := Y ⟨x⟩
theorem Xj6 (x : p) (Y : Bx p → q := by
 intro Y
 refine xac rfl rfl HL (fun W hW => xaz sl26 (.tmp 33) _ rfl ad n c i1 .i64 HSV.out rfl hlt) ?_
 exact Y.1) : q := Y ⟨x⟩
theorem Xj7 (x : p) (Y : Bx p → q := by
 intro Y
 refine xac rfl rfl HL (fun W hW => xay ag24 _ rfl _ kb.c rfl (hW.rdO HE2.out) (by omega) (D32.cl _)) ?_
 exact Y.1) : q := Y ⟨x⟩
theorem Xj8 (x : p) (Y : Bx p → q := by
 intro Y
 refine xad cf14 rfl _ rfl ?_
 exact Y.1) : q := Y ⟨x⟩
theorem Xj9 (x : p) (Y : Bx p → q := by
 intro Y
 refine xac rfl rfl HL (fun W hW => xc3 _ _ rfl _ _ rfl rfl k10) ?_
 refine Xd ?_
 exact Y.1) : q := Y ⟨x⟩
theorem Xja (x : p) (Y : Bx p → q := by
 intro Y
 refine xac rfl rfl HL (fun W hW => xa8 Tryz.underlying26 _ rfl _ _ _ rfl) ?_
 exact Y.1) : q := Y ⟨x⟩
theorem Xjb (x : p) (Y : Bx p → q := by
 intro Y
 refine xac rfl rfl HL (fun W hW => xbf bs199 _ rfl _ (by exact bd199_17 ps tagE ⟨some ⟨gw, 0, none⟩, n, n⟩)) ?_
 exact Y.1) : q := Y ⟨x⟩
theorem Xjc (x : p) (Y : Bx p → q := by
 intro Y
 refine xab rfl _ (xag sc42 HL _ rfl _ _ rfl _ _ _ (.tail _ (.tail _ (.tail _ (.head _)))) (xnn _ _ _)) ?_
 exact Y.1) : q := Y ⟨x⟩
theorem Xjd (x : p) (Y : Bx p → q := by
 intro Y
 refine bodyPost_ret (xgf rfl ag23 _ _ g4 23 _ rfl (HL.blk (.tail _ (.head _))) (D32.cl _)) rfl ?_
 exact Y.1) : q := Y ⟨x⟩
theorem Xje (x : p) (Y : Bx p → q := by
 intro Y
 refine xaa rfl _ (xag sc128 HL _ rfl _ _ rfl _ _ _ (.tail _ (.tail _ (.tail _ (.head _)))) (xrf _ _ _)) ?_
 exact Y.1) : q := Y ⟨x⟩
theorem Xjf (x : p) (Y : Bx p → q := by
 intro Y
 refine xaa rfl _ (xan ag44 HL _ rfl _ rfl _ _ (.tail _ (.head _)) rfl) ?_
 exact Y.1) : q := Y ⟨x⟩
theorem Xjg (x : p) (Y : Bx p → q := by
 intro Y
 with_reducible refine (xrj A n c ks ps bs _ (HKS.out.below HL.below) (HBS.out.below HL.below) hnn).mono ?_
 exact Y.1) : q := Y ⟨x⟩
theorem Xjh (x : p) (Y : Bx p → q := by
 intro Y
 refine xab rfl _ (xa8 Tryz.underlying26 _ rfl _ _ _ rfl) ?_
 exact Y.1) : q := Y ⟨x⟩
theorem Xji (x : p) (Y : Bx p → q := by
 intro Y
 refine bodyPost_ret (xak rfl ag34 _ _ g6 34 _ rfl (HL.blk (.tail _ (.head _))) (Prv.len _)) rfl ?_
 exact Y.1) : q := Y ⟨x⟩
theorem Xjj (x : p) (Y : Bx p → q := by
 intro Y
 refine xah zr24 rfl rfl HL ?_
 intro g7 w HL
 refine Xiv ?_; clear HL; intro w HL
 revert g7 w HL
 exact Y.1) : q := Y ⟨x⟩
theorem Xjk (x : p) (Y : Bx p → q := by
 intro Y
 refine xah zr24 rfl rfl HL ?_
 intro g9 w HL
 refine Xiv ?_; clear HL; intro w HL
 revert g9 w HL
 exact Y.1) : q := Y ⟨x⟩
theorem Xjl (x : p) (Y : Bx p → q := by
 intro Y
 refine xaa rfl _ (xaf fa136_0 _ rfl _ rfl) ?_
 exact Y.1) : q := Y ⟨x⟩
theorem Xjm (x : p) (Y : Bx p → q := by
 intro Y
 refine xaa rfl _ (xau ag24 HL _ rfl _ _ rfl _ _ _ (.tail _ (.tail _ (.tail _ (.head _)))) (Str.g_fr _) (D32.cl _)) ?_
 exact Y.1) : q := Y ⟨x⟩
theorem Xjn (x : p) (Y : Bx p → q := by
 intro Y
 refine Xj8 ?_
 simp only [qk, ql, Act.eval, qa, qb, qc, qd, qe]
 exact Y.1) : q := Y ⟨x⟩
theorem Xjo (x : p) (Y : Bx p → q := by
 intro Y
 refine Xjn ?_
 with_reducible refine (xcw _ (xgm top (d : Int) true) s.fr).mono ?_
 exact Y.1) : q := Y ⟨x⟩
theorem Xjp (x : p) (Y : Bx p → q := by
 intro Y
 refine xaa rfl _ (xc3 _ _ rfl _ _ rfl rfl C1) ?_
 exact Y.1) : q := Y ⟨x⟩
theorem Xjq (x : p) (Y : Bx p → q := by
 intro Y
 refine xab rfl _ (xan ag24 HL _ rfl _ rfl _ _ (.tail _ (.head _)) (D32.cl _)) ?_
 exact Y.1) : q := Y ⟨x⟩
theorem Xjr (x : p) (Y : Bx p → q := by
 intro Y
 refine xaa rfl _ (xau ag24 HL _ rfl _ _ rfl _ _ _ (.tail _ (.head _)) (Str.g_fr _) (D32.cl _)) ?_
 exact Y.1) : q := Y ⟨x⟩
theorem Xjs (x : p) (Y : Bx p → q := by
 intro Y
 refine X3b ?_; intro HL
 refine xac rfl rfl HL (fun W hW => xaf fa138_0 _ rfl _ rfl) ?_
 simp only [Act.put, qf, qg, qh]
 revert HL
 exact Y.1) : q := Y ⟨x⟩
theorem Xjt (x : p) (Y : Bx p → q := by
 intro Y
 refine Xjs ?_; intro HL
 refine xac rfl rfl HL (fun W hW => xau ag136 hW _ rfl _ _ rfl _ _ _ (.tail _ (.tail _ (.tail _ (.head _)))) (Srd.g_str _) (Str.len _)) ?_
 revert HL
 exact Y.1) : q := Y ⟨x⟩
theorem Xju (x : p) (Y : Bx p → q := by
 intro Y
 refine X1z ?_
 with_reducible refine ((CH _).out).mono ?_
 exact Y.1) : q := Y ⟨x⟩
theorem Xjv (x : p) (Y : Bx p → q := by
 intro Y
 refine X3a ?_
 refine xac rfl rfl HL (fun W hW => xaf xr0 _ rfl _ rfl) ?_
 exact Y.1) : q := Y ⟨x⟩
theorem Xjw (x : p) (Y : Bx p → q := by
 intro Y
 refine xac rfl rfl HL (fun W hW => xaf fa138_4 _ rfl _ rfl) ?_
 exact Y.1) : q := Y ⟨x⟩
theorem Xjx (x : p) (Y : Bx p → q := by
 intro Y
 refine xdu sl26 el24 (by decide) _ rfl HX _ rfl (D32.cl _) ?_
 exact Y.1) : q := Y ⟨x⟩
theorem Xjy (x : p) (Y : Bx p → q := by
 intro Y
 have hrk : Rd _ (some ⟨g25, 0, none⟩) b.key.c := Rd.of_blk0 (es := []) (by simpa using HX.blk (g := g25) (t := 24) (cs := b.key.c) (by simp))
 revert hrk
 exact Y.1) : q := Y ⟨x⟩
theorem Xjz (x : p) (Y : Bx p → q := by
 intro Y
 refine xdu sl29 el23 (by decide) _ rfl HX _ rfl (D32.cl _) ?_
 exact Y.1) : q := Y ⟨x⟩
theorem Xk0 (x : p) (Y : Bx p → q := by
 intro Y
 refine X3x ?_; intro K hK
 have hrd : Rd _ (some ⟨g33, 0, none⟩) b.val.c := Rd.of_blk0 (es := []) (by simpa using HX.blk (g := g33) (t := 23) (cs := b.val.c) (by simp))
 revert K hK hrd
 exact Y.1) : q := Y ⟨x⟩
theorem Xk1 (x : p) (Y : Bx p → q := by
 intro Y
 refine xam sl29 el23 _ _ rfl (_ :: _ :: _ :: _ :: _ :: _ :: Gk') _ s.digs _ hGd HX rfl ⟨g33, 0, none⟩ 1 1 b.val.c rfl hrd (D32.cl _) (D32.c1 _) (by omega) (by omega) (by omega) ?_
 exact Y.1) : q := Y ⟨x⟩
theorem Xk2 (x : p) (Y : Bx p → q := by
 intro Y
 refine X3w ?_
 refine Xjv ?_
 refine Xk ?_; intro K hK
 revert K hK
 exact Y.1) : q := Y ⟨x⟩
theorem Xk3 (x : p) (Y : Bx p → q := by
 intro Y
 refine X3x ?_; intro K hK
 refine X1e ?_
 revert K hK
 exact Y.1) : q := Y ⟨x⟩
theorem Xk4 (x : p) (Y : Bx p → q := by
 intro Y
 refine Xk3 ?_; intro K hK
 refine X3w ?_; clear hK K
 refine Xjw ?_
 refine Xk ?_; intro K hK
 revert K hK
 exact Y.1) : q := Y ⟨x⟩
theorem Xk5 (x : p) (Y : Bx p → q := by
 intro Y
 refine Xdh ?_; intro w HX
 refine Xak ?_
 revert w HX
 exact Y.1) : q := Y ⟨x⟩
theorem Xk6 (x : p) (Y : Bx p → q := by
 intro Y
 refine xac rfl rfl HL (fun W hW => xaf xmt _ rfl _ rfl) ?_
 exact Y.1) : q := Y ⟨x⟩
theorem Xk7 (x : p) (Y : Bx p → q := by
 intro Y
 refine xac rfl rfl HL (fun W hW => xau ag24 hW _ rfl _ _ rfl _ _ _ (.tail _ (.tail _ (.tail _ (.head _)))) (Srd.g_key _) (D32.cl _)) ?_
 exact Y.1) : q := Y ⟨x⟩
theorem Xk8 (x : p) (Y : Bx p → q := by
 intro Y
 refine xaa rfl _ (xau ag24 HL _ rfl _ _ rfl _ _ _ (.tail _ (.tail _ (.head _))) (Brv.g_key _) (D32.cl _)) ?_
 exact Y.1) : q := Y ⟨x⟩
theorem Xk9 (x : p) (Y : Bx p → q := by
 intro Y
 refine xaa rfl _ (xau ag23 HL _ rfl _ _ rfl _ _ _ (.tail _ (.tail _ (.head _))) (Brv.g_val _) (D32.cl _)) ?_
 exact Y.1) : q := Y ⟨x⟩
theorem Xka (x : p) (Y : Bx p → q := by
 intro Y
 refine xaa rfl _ (xaf xhh _ rfl _ rfl) ?_
 exact Y.1) : q := Y ⟨x⟩
theorem Xkb (x : p) (Y : Bx p → q := by
 intro Y
 refine rB (Loc.P HL) [] [4, 9, 10] [0, 1, 2, 3, 5, 6, 7, 8, 4, 9, 10, 11] 0 ?_
 exact Y.1) : q := Y ⟨x⟩
theorem Xkc (x : p) (Y : Bx p → q := by
 intro Y
 refine Xhs ?_
 refine xac rfl rfl HL (fun W hW => xau ag24 hW _ rfl _ _ rfl _ _ _ (.tail _ (.head _)) (Brv.g_key _) (D32.cl _)) ?_
 simp only [Act.put, qf, qg, qh]
 exact Y.1) : q := Y ⟨x⟩
theorem Xkd (x : p) (Y : Bx p → q := by
 intro Y
 refine xac rfl rfl HL (fun W hW => xau ag23 hW _ rfl _ _ rfl _ _ _ (.tail _ (.head _)) (Brv.g_val _) (D32.cl _)) ?_
 exact Y.1) : q := Y ⟨x⟩
theorem Xke (x : p) (Y : Bx p → q := by
 intro Y
 refine bodyPost_ret (xak rfl ag23 _ _ g8 23 _ rfl hb8 (D32.cl _)) rfl ?_
 exact Y.1) : q := Y ⟨x⟩
theorem Xkf (x : p) (Y : Bx p → q := by
 intro Y
 refine Xcq ?_; intro g4 w HL
 refine X92 ?_; clear HL; intro g6 w HL
 refine X1c ?_
 revert g4 g6 w HL
 exact Y.1) : q := Y ⟨x⟩
theorem Xkg (x : p) (Y : Bx p → q := by
 intro Y
 refine xaa rfl _ (xaf xms _ rfl _ rfl) ?_
 simp only [Act.put, qf, qg, qh]
 exact Y.1) : q := Y ⟨x⟩
theorem Xkh (x : p) (Y : Bx p → q := by
 intro Y
 refine X16 ?_
 refine Xkg ?_
 refine xaa rfl _ (xag sc42 HL _ rfl _ _ rfl _ _ _ (.tail _ (.tail _ (.head _))) (Srd.g_rest _)) ?_
 exact Y.1) : q := Y ⟨x⟩
theorem Xki (x : p) (Y : Bx p → q := by
 intro Y
 refine Xf ?_
 refine bodyPost_ret (xak rfl ag23 _ _ g6 23 _ rfl (HL.blk (.head _)) (D32.cl _)) rfl ?_
 exact Y.1) : q := Y ⟨x⟩
theorem Xkj (x : p) (Y : Bx p → q := by
 intro Y
 refine Xkh ?_
 refine Xi4 ?_
 refine xab rfl _ (xaf xms _ rfl _ rfl) ?_
 refine X5 ?_
 refine xab rfl _ (xag sc42 HL _ rfl _ _ rfl _ _ _ (.tail _ (.tail _ (.head _))) (Srd.g_rest _)) ?_
 simp only [Act.put, qf, qg, qh]
 exact Y.1) : q := Y ⟨x⟩
theorem Xkk (x : p) (Y : Bx p → q := by
 intro Y
 refine xab rfl _ (xaz sl42 (.tmp 24) _ rfl ad s.rest.n s.rest.c 0 .i64 HSV.out rfl hr0) ?_
 refine Xi7 ?_; intro K hK
 refine xad cf170 rfl _ rfl ?_
 revert K hK
 exact Y.1) : q := Y ⟨x⟩
theorem Xkl (x : p) (Y : Bx p → q := by
 intro Y
 refine Xkj ?_
 refine Xkk ?_; intro K hK
 refine Xi9 ?_; clear hK K; intro w HL
 revert w HL
 exact Y.1) : q := Y ⟨x⟩
theorem Xkm (x : p) (Y : Bx p → q := by
 intro Y
 refine Xkh ?_
 refine X5 ?_
 refine xaa rfl _ (xaz sl42 (.tmp 34) _ rfl ad s.rest.n s.rest.c 0 .i64 HSV.out rfl hr0) ?_
 refine Xib ?_
 exact Y.1) : q := Y ⟨x⟩
theorem Xkn (x : p) (Y : Bx p → q := by
 intro Y
 refine xah xls rfl rfl HL ?_
 intro g8 w HL
 refine Xgk ?_; clear HL; intro w HL
 revert g8 w HL
 exact Y.1) : q := Y ⟨x⟩
theorem Xko (x : p) (Y : Bx p → q := by
 intro Y
 refine X3o ?_
 refine Xkg ?_
 refine xaa rfl _ (xag sc42 HL _ rfl _ _ rfl _ _ _ (.tail _ (.tail _ (.tail _ (.head _)))) (Srd.g_rest _)) ?_
 refine X5 ?_
 refine xaa rfl _ (xb3 sl42 (.tmp 41) _ rfl s.rest.A s.rest.n s.rest.c 1 .i64 rfl rfl hr0) ?_
 refine X18 ?_
 refine Xkg ?_
 exact Y.1) : q := Y ⟨x⟩
theorem Xkp (x : p) (Y : Bx p → q := by
 intro Y
 refine X5 ?_
 refine xac rfl rfl HL (fun W hW => xan ag24 hW _ rfl _ rfl _ _ (.tail _ (.tail _ (.head _))) (D32.cl _)) ?_
 exact Y.1) : q := Y ⟨x⟩
theorem Xkq (x : p) (Y : Bx p → q := by
 intro Y
 refine rB (Loc.P HL) [] [6] [0, 1, 2, 3, 4, 5, 6, 7] 0 ?_
 refine Xjt ?_; intro HL
 refine Xkp ?_
 refine Xb7 ?_; intro K hK
 refine xad cf171 rfl _ rfl ?_
 refine X1z ?_
 with_reducible refine ((CT _).out).mono ?_
 refine X6s ?_; clear hK K; intro w HL
 refine X4x ?_
 revert w HL
 exact Y.1) : q := Y ⟨x⟩
theorem Xkr (x : p) (Y : Bx p → q := by
 intro Y
 refine bodyPost_ret (xak rfl ag23 _ _ g6 23 _ rfl (HL.blk (.tail _ (.head _))) (D32.cl _)) rfl ?_
 exact Y.1) : q := Y ⟨x⟩
theorem Xks (x : p) (Y : Bx p → q := by
 intro Y
 refine Xhp ?_
 refine Xih ?_
 exact Y.1) : q := Y ⟨x⟩
theorem Xkt (x : p) (Y : Bx p → q := by
 intro Y
 refine xab rfl _ (xao (b := true) _ _ rfl _ _ rfl rfl k10) ?_
 refine X2a ?_
 exact Y.1) : q := Y ⟨x⟩
theorem Xku (x : p) (Y : Bx p → q := by
 intro Y
 refine xac rfl rfl HL (fun W hW => xau ag24 hW _ rfl _ _ rfl _ _ _ (.tail _ (.tail _ (.tail _ (.tail _ (.tail _ (.head _)))))) (Srd.g_key _) (D32.cl _)) ?_
 exact Y.1) : q := Y ⟨x⟩
theorem Xkv (x : p) (Y : Bx p → q := by
 intro Y
 refine xac rfl rfl HL (fun W hW => xan ag24 hW _ rfl _ rfl _ _ (.tail _ (.tail _ (.tail _ (.tail _ (.head _))))) (D32.cl _)) ?_
 exact Y.1) : q := Y ⟨x⟩
theorem Xkw (x : p) (Y : Bx p → q := by
 intro Y
 refine xaa rfl _ (xau ag24 HL _ rfl _ _ rfl _ _ _ (.tail _ (.tail _ (.tail _ (.tail _ (.tail _ (.tail _ (.head _))))))) (Srd.g_key _) (D32.cl _)) ?_
 exact Y.1) : q := Y ⟨x⟩
theorem Xkx (x : p) (Y : Bx p → q := by
 intro Y
 have HL := HX.drop [(g13, 23, l.c), (g12, 23, r.c), (g10, 23, l.c), (g8, 124, b.cells), (g6, 23, D32.z.c), (g4, 24, top.c), (gr, 138, s3.cells)] (by simp)
 revert HL
 exact Y.1) : q := Y ⟨x⟩
theorem Xky (x : p) (Y : Bx p → q := by
 intro Y
 refine rB (Loc.P HL) [12] [7, 8, 9, 10, 12] [0, 1, 2, 3, 4, 5, 6, 7, 8, 9, 10, 11, 12] 0 ?_
 refine X3u ?_; intro HL
 revert HL
 exact Y.1) : q := Y ⟨x⟩
theorem Xkz (x : p) (Y : Bx p → q := by
 intro Y
 refine xac rfl rfl HL (fun W hW => xag sc29 hW _ rfl _ _ rfl _ _ _ (.tail _ (.tail _ (.tail _ (.tail _ (.tail _ (.tail _ (.head _))))))) (Srd.g_sides _)) ?_
 exact Y.1) : q := Y ⟨x⟩
theorem Xl0 (x : p) (Y : Bx p → q := by
 intro Y
 refine xa6 ag23 rfl _ _ rfl HL 4 g6 23 D32.z.c (tagI l r).c rfl rfl rfl (D32.cl _) (D32.cl _) (D32.c1 _) ?_
 exact Y.1) : q := Y ⟨x⟩
theorem Xl1 (x : p) (Y : Bx p → q := by
 intro Y
 refine bodyPost_ret (xak rfl ag23 _ _ g6 23 _ rfl (HL.blk (.tail _ (.tail _ (.tail _ (.tail _ (.head _)))))) (D32.cl _)) rfl ?_
 exact Y.1) : q := Y ⟨x⟩
theorem Xl2 (x : p) (Y : Bx p → q := by
 intro Y
 have HL := HX.drop [(g13, 23, r.c), (g12, 23, r.c), (g10, 23, l.c), (g8, 124, b.cells), (g6, 23, D32.z.c), (g4, 24, top.c), (gr, 138, s3.cells)] (by simp)
 revert HL
 exact Y.1) : q := Y ⟨x⟩
theorem Xl3 (x : p) (Y : Bx p → q := by
 intro Y
 refine xaa rfl _ (xaf fa52_0 _ rfl _ rfl) ?_
 exact Y.1) : q := Y ⟨x⟩
theorem Xl4 (x : p) (Y : Bx p → q := by
 intro Y
 refine xaa rfl _ (xag sc42 HL _ rfl _ _ rfl _ _ _ (.tail _ (.tail _ (.head _))) (Spv.g_parts _)) ?_
 exact Y.1) : q := Y ⟨x⟩
theorem Xl5 (x : p) (Y : Bx p → q := by
 intro Y
 refine bodyPost_ret (xgf rfl ag23 _ _ g8 23 _ rfl (HL.blk (.head _)) (D32.cl _)) rfl ?_
 exact Y.1) : q := Y ⟨x⟩
theorem Xl6 (x : p) (Y : Bx p → q := by
 intro Y
 refine xaa rfl _ (xa4 (b := false) _ _ rfl _ _ rfl rfl k3) ?_
 exact Y.1) : q := Y ⟨x⟩
theorem Xl7 (x : p) (Y : Bx p → q := by
 intro Y
 refine xab rfl _ (xag sc50 HL _ rfl _ _ rfl _ _ _ (.tail _ (.tail _ (.head _))) (Spv.g_vals _)) ?_
 exact Y.1) : q := Y ⟨x⟩
theorem Xl8 (x : p) (Y : Bx p → q := by
 intro Y
 refine rB (Loc.P HL) [] [] [0, 1, 2, 3, 4, 5, 6, 7, 8, 9, 10, 11, 12, 13, 14, 15, 16, 17, 18, 19, 20] 0 ?_
 exact Y.1) : q := Y ⟨x⟩
theorem Xl9 (x : p) (Y : Bx p → q := by
 intro Y
 refine bodyPost_ret (xgf rfl ag23 _ _ g8 23 _ rfl (HL.blk (.tail _ (.head _))) (D32.cl _)) rfl ?_
 exact Y.1) : q := Y ⟨x⟩
theorem Xla (x : p) (Y : Bx p → q := by
 intro Y
 refine xac rfl rfl HL (fun W hW => xaf xms _ rfl _ rfl) ?_
 exact Y.1) : q := Y ⟨x⟩
theorem Xlb (x : p) (Y : Bx p → q := by
 intro Y
 refine xac rfl rfl HL (fun W hW => xag sc42 hW _ rfl _ _ rfl _ _ _ (.tail _ (.tail _ (.tail _ (.tail _ (.tail _ (.tail _ (.head _))))))) (Srd.g_rest _)) ?_
 exact Y.1) : q := Y ⟨x⟩
theorem Xlc (x : p) (Y : Bx p → q := by
 intro Y
 refine xac rfl rfl HL (fun W hW => xa8 Tryz.underlying42 _ rfl _ _ _ rfl) ?_
 exact Y.1) : q := Y ⟨x⟩
theorem Xld (x : p) (Y : Bx p → q := by
 intro Y
 refine xac rfl rfl HL (fun W hW => xa4 (b := false) _ _ rfl _ _ rfl rfl k10) ?_
 refine X3f ?_
 exact Y.1) : q := Y ⟨x⟩
theorem Xle (x : p) (Y : Bx p → q := by
 intro Y
 refine xac rfl rfl HL (fun W hW => xag sc26 hW _ rfl _ _ rfl _ _ _ (.tail _ (.tail _ (.tail _ (.tail _ (.tail _ (.tail _ (.head _))))))) (Srd.g_keys _)) ?_
 exact Y.1) : q := Y ⟨x⟩
theorem Xlf (x : p) (Y : Bx p → q := by
 intro Y
 refine xac rfl rfl HL (fun W hW => xaf xmp _ rfl _ rfl) ?_
 exact Y.1) : q := Y ⟨x⟩
theorem Xlg (x : p) (Y : Bx p → q := by
 intro Y
 refine xac rfl rfl HL (fun W hW => xag sc50 hW _ rfl _ _ rfl _ _ _ (.tail _ (.tail _ (.tail _ (.head _)))) (Spv.g_vals _)) ?_
 exact Y.1) : q := Y ⟨x⟩
theorem Xlh (x : p) (Y : Bx p → q := by
 intro Y
 refine X5 ?_
 refine xac rfl rfl HL (fun W hW => xa8 Tryz.underlying50 _ rfl _ _ _ rfl) ?_
 exact Y.1) : q := Y ⟨x⟩
theorem Xli (x : p) (Y : Bx p → q := by
 intro Y
 refine xaa rfl _ (xaf xmp _ rfl _ rfl) ?_
 exact Y.1) : q := Y ⟨x⟩
theorem Xlj (x : p) (Y : Bx p → q := by
 intro Y
 refine xaa rfl _ (xcj _ _ rfl _ _ rfl rfl k0) ?_
 exact Y.1) : q := Y ⟨x⟩
theorem Xlk (x : p) (Y : Bx p → q := by
 intro Y
 refine X5 ?_
 refine xaa rfl _ (xcx sc25 _ rfl _ _ rfl (HL.rdO HE.out)) ?_
 exact Y.1) : q := Y ⟨x⟩
theorem Xll (x : p) (Y : Bx p → q := by
 intro Y
 refine rB (Loc.P HL) [] [5] [0, 1, 2, 3, 4, 6, 7, 8, 9, 10, 11, 12, 5, 13, 14] 0 ?_
 exact Y.1) : q := Y ⟨x⟩
theorem Xlm (x : p) (Y : Bx p → q := by
 intro Y
 refine xac rfl rfl HL (fun W hW => xa8 Tryz.underlying25 _ rfl _ _ _ rfl) ?_
 exact Y.1) : q := Y ⟨x⟩
theorem Xln (x : p) (Y : Bx p → q := by
 intro Y
 refine xac rfl rfl HL (fun W hW => xa4 (b := false) _ _ rfl _ _ rfl rfl k2) ?_
 refine X6k ?_
 exact Y.1) : q := Y ⟨x⟩
theorem Xlo (x : p) (Y : Bx p → q := by
 intro Y
 refine xac rfl rfl HL (fun W hW => xag sc29 hW _ rfl _ _ rfl _ _ _ (.tail _ (.tail _ (.tail _ (.tail _ (.tail _ (.tail _ (.head _))))))) (Srd.g_digs _)) ?_
 exact Y.1) : q := Y ⟨x⟩
theorem Xlp (x : p) (Y : Bx p → q := by
 intro Y
 refine xac rfl rfl HL (fun W hW => xaz sl29 (.tmp 88) _ rfl ad2 VL.length s1.digs.c i .i64 HSD.out rfl hiv) ?_
 exact Y.1) : q := Y ⟨x⟩
theorem Xlq (x : p) (Y : Bx p → q := by
 intro Y
 refine xac rfl rfl HL (fun W hW => xay ag23 _ rfl _ vd.c rfl (hrd2 _ hW) (by omega) (D32.cl _)) ?_
 exact Y.1) : q := Y ⟨x⟩
theorem Xlr (x : p) (Y : Bx p → q := by
 intro Y
 refine X5w ?_
 with_reducible refine (xks sv lv _ (HT.out.below HL.below) (by omega)).mono ?_
 exact Y.1) : q := Y ⟨x⟩
theorem Xls (x : p) (Y : Bx p → q := by
 intro Y
 refine X1z ?_
 with_reducible refine ((CR _ (HBS.out.below HL.below) (HTX.out.below HL.below)).out).mono ?_
 exact Y.1) : q := Y ⟨x⟩
theorem Xlt (x : p) (Y : Bx p → q := by
 intro Y
 refine xac rfl rfl HL (fun W hW => xay ag136 _ rfl ⟨gr, 0, none⟩ s.str.cells rfl (HE.out.part hW hfr 0 64 _ (Srd.g_str _)) (by omega) (Str.len _)) ?_
 exact Y.1) : q := Y ⟨x⟩
theorem Xlu (x : p) (Y : Bx p → q := by
 intro Y
 refine bodyPost_ret (xak rfl ag34 _ _ g8 34 _ rfl (HL.blk (.tail _ (.head _))) (Prv.len _)) rfl ?_
 exact Y.1) : q := Y ⟨x⟩
theorem Xlv (x : p) (Y : Bx p → q := by
 intro Y
 refine X14 ?_
 refine xaa rfl _ (xbi (b := true) _ _ rfl _ _ rfl rfl HER.out) ?_
 exact Y.1) : q := Y ⟨x⟩
theorem Xlw (x : p) (Y : Bx p → q := by
 intro Y
 refine xaa rfl _ (xan ag52 HL _ rfl _ rfl _ _ (.head _) (Spv.len _)) ?_
 exact Y.1) : q := Y ⟨x⟩
theorem Xlx (x : p) (Y : Bx p → q := by
 intro Y
 refine xaa rfl _ (xag sc50 HL _ rfl _ _ rfl _ _ _ (.head _) (Spv.g_vals _)) ?_
 exact Y.1) : q := Y ⟨x⟩
theorem Xly (x : p) (Y : Bx p → q := by
 intro Y
 refine Xax ?_
 with_reducible refine (xf2 (i := 1) HL rfl hR ((xck st : Nat) : Int) hLB0 hSTb).mono ?_
 exact Y.1) : q := Y ⟨x⟩
theorem Xlz (x : p) (Y : Bx p → q := by
 intro Y
 have hTX := hGt.tx (L0 := _ :: _ :: _ :: (Gv ++ GT)) (L1 := []) (by simpa only [List.cons_append, List.append_assoc] using HL)
 revert hTX
 exact Y.1) : q := Y ⟨x⟩
theorem Xm0 (x : p) (Y : Bx p → q := by
 intro Y
 have HBK2 := fun (L : List (Nat × Nat × List Value)) (u : World) (h : Loc w _ L u) => HBK _ _ (HL.back2 hb h)
 have HNW := fun (k : Nat) (hk : k < w0.heap.size) => HOD k hk
 revert HBK2 HNW
 exact Y.1) : q := Y ⟨x⟩
theorem Xm1 (x : p) (Y : Bx p → q := by
 intro Y
 have hnw : ∀ y ∈ Gv ++ GT, w0.heap.size ≤ y.1 := fun y hy => Nat.le_of_not_lt fun h2 => (HL.own y (by rcases List.mem_append.1 hy with h3 | h3 <;> simp [h3])).1 (HOD _ h2)
 revert hnw
 exact Y.1) : q := Y ⟨x⟩
theorem Xm2 (x : p) (Y : Bx p → q := by
 intro Y
 refine xa6 ag44 rfl _ _ rfl HL 0 g7 44 _ [Sv.v ps] rfl rfl rfl rfl rfl (by simp [Sv.v, Value.oneCell']) ?_
 exact Y.1) : q := Y ⟨x⟩
theorem Xm3 (x : p) (Y : Bx p → q := by
 intro Y
 have hpf2 : ∀ ad, ps.A = some ad → w0.heap.size ≤ ad.block := fun ad e => Nat.le_trans (Nat.le_trans hszA hszB) (hpf ad e)
 revert hpf2
 exact Y.1) : q := Y ⟨x⟩
theorem Xm4 (x : p) (Y : Bx p → q := by
 intro Y
 have CB2 : ∀ (u : World) (L : List (Nat × Nat × List Value)), L[2]? = some (gr, 195, cs2) → Loc w2 D2 L u → Hid (Calls Tryz.prog 59 #[.pointer (some ⟨gr, 0, none⟩)] u fun e w' => e = .returned (.bool (badB (xbt st ((xck st : Nat) : Int)))) ∧ u = w') := fun u L hi hW => hZ (xpf (i := 2) hW hi hR3)
 revert CB2
 exact Y.1) : q := Y ⟨x⟩
theorem Xm5 (x : p) (Y : Bx p → q := by
 intro Y
 refine Xaz ?_
 with_reducible refine ((CB2 _ _ rfl HL).out).mono ?_
 exact Y.1) : q := Y ⟨x⟩
theorem Xm6 (x : p) (Y : Bx p → q := by
 intro Y
 refine Xv ?_
 refine xaa rfl _ (xc8 bs52 rfl) ?_
 refine X5 ?_
 refine xa6 ag52 rfl _ _ rfl HL 3 _ _ _ _ rfl rfl rfl (Spv.len _) (Spv.len _) (Spv.one _) ?_
 refine X4k ?_; intro w HL
 revert w HL
 exact Y.1) : q := Y ⟨x⟩
theorem Xm7 (x : p) (Y : Bx p → q := by
 intro Y
 refine Xf ?_
 refine bodyPost_ret (xak rfl ag52 _ _ g2 52 _ rfl (HL.blk (.tail _ (.tail _ (.tail _ (.head _))))) (Spv.len _)) rfl ?_
 exact Y.1) : q := Y ⟨x⟩
theorem Xm8 (x : p) (Y : Bx p → q := by
 intro Y
 refine X1o ?_
 refine xab rfl _ (xbi (b := false) _ _ rfl _ _ rfl rfl k4) ?_
 exact Y.1) : q := Y ⟨x⟩
theorem Xm9 (x : p) (Y : Bx p → q := by
 intro Y
 refine xaa rfl _ (xan ag52 HL _ rfl _ rfl _ _ (.tail _ (.head _)) (Spv.len _)) ?_
 exact Y.1) : q := Y ⟨x⟩
theorem Xma (x : p) (Y : Bx p → q := by
 intro Y
 refine xaa rfl _ (xbi (b := false) _ _ rfl _ _ rfl rfl k1) ?_
 exact Y.1) : q := Y ⟨x⟩
theorem Xmb (x : p) (Y : Bx p → q := by
 intro Y
 with_reducible refine (xdt se le A n c l _ hte (Rd.below HT.out.rd (HBK2 _ _ HL)) HTL.out).mono ?_
 exact Y.1) : q := Y ⟨x⟩
theorem Xmc (x : p) (Y : Bx p → q := by
 intro Y
 refine xa6 ag52 rfl _ _ rfl HL 3 g2 52 Spv.z.cells (⟨ps, svv⟩ : Spv).cells rfl rfl rfl (Spv.len _) (Spv.len _) (Spv.one _) ?_
 exact Y.1) : q := Y ⟨x⟩
theorem Xmd (x : p) (Y : Bx p → q := by
 intro Y
 refine X1o ?_
 refine xab rfl _ (xbi (b := true) _ _ rfl _ _ rfl rfl k4) ?_
 exact Y.1) : q := Y ⟨x⟩
theorem Xme (x : p) (Y : Bx p → q := by
 intro Y
 refine xaa rfl _ (xao (b := false) _ _ rfl _ _ rfl rfl kroom) ?_
 refine X22 ?_
 exact Y.1) : q := Y ⟨x⟩
theorem Xmf (x : p) (Y : Bx p → q := by
 intro Y
 refine X9k ?_
 refine xaa rfl _ (xa4 (b := false) _ _ rfl _ _ rfl rfl klen) ?_
 exact Y.1) : q := Y ⟨x⟩
theorem Xmg (x : p) (Y : Bx p → q := by
 intro Y
 refine X1z ?_
 with_reducible refine (fits1 (HH.out.below HL.below).sw ⟨r1, r2⟩ HF.out).mono ?_
 exact Y.1) : q := Y ⟨x⟩
theorem Xmh (x : p) (Y : Bx p → q := by
 intro Y
 refine xaa rfl _ (xag sc4 HL _ rfl _ _ rfl _ _ _ (.head _) (Plc.g_same _)) ?_
 refine X22 ?_
 exact Y.1) : q := Y ⟨x⟩
theorem Xmi (x : p) (Y : Bx p → q := by
 intro Y
 have HX := HL.less (D' := fun k => Old w0 k ∧ ¬ D k) (fun k hk => hk.1)
 revert HX
 exact Y.1) : q := Y ⟨x⟩
theorem Xmj (x : p) (Y : Bx p → q := by
 intro Y
 refine xaa rfl _ (xag sc4 HL _ rfl _ _ rfl _ _ _ (.head _) (Plc.g_other _)) ?_
 refine X22 ?_
 exact Y.1) : q := Y ⟨x⟩
theorem Xmk (x : p) (Y : Bx p → q := by
 intro Y
 refine xaa rfl _ (xag sc71 HL _ rfl _ _ rfl _ _ _ (.head _) (Plc.g_above _)) ?_
 exact Y.1) : q := Y ⟨x⟩
theorem Xml (x : p) (Y : Bx p → q := by
 intro Y
 refine xaa rfl _ (xaf xjb _ rfl _ rfl) ?_
 exact Y.1) : q := Y ⟨x⟩
theorem Xmm (x : p) (Y : Bx p → q := by
 intro Y
 refine xaa rfl _ (xcv sc164 HL _ rfl _ rfl _ (by with_reducible assumption)) ?_
 exact Y.1) : q := Y ⟨x⟩
theorem Xmn (x : p) (Y : Bx p → q := by
 intro Y
 with_reducible refine (xux (HH.out.below HL.below)).mono ?_
 exact Y.1) : q := Y ⟨x⟩
theorem Xmo (x : p) (Y : Bx p → q := by
 intro Y
 refine X1z ?_
 with_reducible refine (dc_keyed (HH.out.below HL.below) A c key (HL.rdO HR.out) hc).mono ?_
 exact Y.1) : q := Y ⟨x⟩
theorem Xmp (x : p) (Y : Bx p → q := by
 intro Y
 refine xac rfl rfl HL (fun W hW => xjw sc164 hW _ rfl _ rfl _ hgd hc1) ?_
 refine X3d ?_
 exact Y.1) : q := Y ⟨x⟩
theorem Xmq (x : p) (Y : Bx p → q := by
 intro Y
 refine xli bt _ _ rfl .i64 .i64 32 32 rfl rfl (by omega) (by omega) ?_
 exact Y.1) : q := Y ⟨x⟩
theorem Xmr (x : p) (Y : Bx p → q := by
 intro Y
 have hbw : Below w1.heap.size w1 ((w1.drew.alloc (.cells (bvs (List.replicate 32 0)).toArray 5)).alloc (.cells (bvs (List.replicate 32 0)).toArray 5)) := ((Below.refl _ w1).drew).trans h2.2.2.2.2
 revert hbw
 exact Y.1) : q := Y ⟨x⟩
theorem Xms (x : p) (Y : Bx p → q := by
 intro Y
 with_reducible refine (xhl _ none 0 0 [] (Rd.nil _ _) rfl (by omega) (by omega) (by omega)).mono ?_
 exact Y.1) : q := Y ⟨x⟩
theorem Xmt (x : p) (Y : Bx p → q := by
 intro Y
 refine X63 ?_
 with_reducible refine (xm7 _ ky (tagV [])).mono ?_
 exact Y.1) : q := Y ⟨x⟩
theorem Xmu (x : p) (Y : Bx p → q := by
 intro Y
 refine X8h ?_; intro K hK
 refine xad cf6 rfl _ rfl ?_
 refine X1z ?_
 with_reducible refine (alive_ok _).mono ?_
 revert K hK
 exact Y.1) : q := Y ⟨x⟩
theorem Xmv (x : p) (Y : Bx p → q := by
 intro Y
 refine Xmu ?_; intro K hK
 refine X5x ?_; clear hK K; intro w HL
 revert w HL
 exact Y.1) : q := Y ⟨x⟩
theorem Xmw (x : p) (Y : Bx p → q := by
 intro Y
 refine xab rfl _ (xa8 Tryz.underlying25 _ rfl _ _ _ rfl) ?_
 simp only [Act.put, qf, qg, qh]
 exact Y.1) : q := Y ⟨x⟩
theorem Xmx (x : p) (Y : Bx p → q := by
 intro Y
 refine xab rfl _ (xa4 (b := false) _ _ rfl _ _ rfl rfl k5) ?_
 exact Y.1) : q := Y ⟨x⟩
theorem Xmy (x : p) (Y : Bx p → q := by
 intro Y
 refine Xmw ?_
 refine xab rfl _ (xa4 (b := false) _ _ rfl _ _ rfl rfl k10) ?_
 exact Y.1) : q := Y ⟨x⟩
theorem Xmz (x : p) (Y : Bx p → q := by
 intro Y
 refine xaa rfl _ (xao (b := eb) _ _ rfl _ _ rfl rfl heb) ?_
 exact Y.1) : q := Y ⟨x⟩
theorem Xn0 (x : p) (Y : Bx p → q := by
 intro Y
 refine xad cf8 rfl _ rfl ?_
 exact Y.1) : q := Y ⟨x⟩
theorem Xn1 (x : p) (Y : Bx p → q := by
 intro Y
 refine xdu sl28 el39 (by decide) _ rfl HL cl.cells rfl (Clm.len _) ?_
 exact Y.1) : q := Y ⟨x⟩
theorem Xn2 (x : p) (Y : Bx p → q := by
 intro Y
 refine X1z ?_
 with_reducible refine (xgg root key x ds other lo _ (SD.out.at HL) (KP.out.o.at HL)).mono ?_
 exact Y.1) : q := Y ⟨x⟩
theorem Xn3 (x : p) (Y : Bx p → q := by
 intro Y
 refine xaa rfl _ (xan ag23 HL _ rfl _ rfl _ _ (.tail _ (.tail _ (.tail _ (.tail _ (.tail _ (.head _)))))) (D32.cl _)) ?_
 exact Y.1) : q := Y ⟨x⟩
theorem Xn4 (x : p) (Y : Bx p → q := by
 intro Y
 refine X17 ?_
 refine xab rfl _ (xan ag23 HL _ rfl _ rfl _ _ (.head _) (D32.cl _)) ?_
 exact Y.1) : q := Y ⟨x⟩
theorem Xn5 (x : p) (Y : Bx p → q := by
 intro Y
 refine xab rfl _ (xan ag23 HL _ rfl _ rfl _ _ (.tail _ (.tail _ (.tail _ (.tail _ (.tail _ (.head _)))))) (D32.cl _)) ?_
 exact Y.1) : q := Y ⟨x⟩
theorem Xn6 (x : p) (Y : Bx p → q := by
 intro Y
 refine xac rfl rfl HL (fun W hW => xay ag24 _ rfl _ ki.c rfl (hki _ _ hW) (by omega) (D32.cl _)) ?_
 exact Y.1) : q := Y ⟨x⟩
theorem Xn7 (x : p) (Y : Bx p → q := by
 intro Y
 refine X1z ?_
 with_reducible refine (xgg root ki x ds value lv _ (SD.out.at HX) (KP.out.v.at HX)).mono ?_
 exact Y.1) : q := Y ⟨x⟩
theorem Xn8 (x : p) (Y : Bx p → q := by
 intro Y
 refine xd4 ag39 _ _ rfl HX 0 g35 39 Clm.z.cells cl.cells rfl rfl rfl (Clm.len _) (Clm.len _) (Clm.one _) ?_
 exact Y.1) : q := Y ⟨x⟩
theorem Xn9 (x : p) (Y : Bx p → q := by
 intro Y
 refine xac rfl rfl HL (fun W hW => xaz sl26 (.tmp 146) _ rfl ad n c i .i64 HSV.out rfl hlt) ?_
 exact Y.1) : q := Y ⟨x⟩
theorem Xna (x : p) (Y : Bx p → q := by
 intro Y
 refine xac rfl rfl HL (fun W hW => xan ag24 hW _ rfl _ rfl _ _ (.tail _ (.tail _ (.tail _ (.tail _ (.tail _ (.tail _ (.head _))))))) (D32.cl _)) ?_
 exact Y.1) : q := Y ⟨x⟩
theorem Xnb (x : p) (Y : Bx p → q := by
 intro Y
 refine Xjn ?_
 with_reducible refine (xcw _ fr key).mono ?_
 exact Y.1) : q := Y ⟨x⟩
theorem Xnc (x : p) (Y : Bx p → q := by
 intro Y
 refine xab rfl _ (xd2 (b := true) _ _ rfl _ _ rfl rfl HC1.out) ?_
 refine X5a ?_
 exact Y.1) : q := Y ⟨x⟩
theorem Xnd (x : p) (Y : Bx p → q := by
 intro Y
 refine xac rfl rfl HL (fun W hW => xaz sl55 (.tmp 203) _ rfl ad sp.n sp.c i .i64 HSV.out rfl hlt) ?_
 exact Y.1) : q := Y ⟨x⟩
theorem Xne (x : p) (Y : Bx p → q := by
 intro Y
 refine xac rfl rfl HL (fun W hW => xay ag24 _ rfl _ p.key.c rfl (hpk _ _ hW) (by omega) (D32.cl _)) ?_
 exact Y.1) : q := Y ⟨x⟩
theorem Xnf (x : p) (Y : Bx p → q := by
 intro Y
 refine X1b ?_
 refine xaa rfl _ (xg0 Tryz.underlying28 _ rfl sv xs.length rfl HSL.out) ?_
 exact Y.1) : q := Y ⟨x⟩
end Go.Proofs.YtkjjdgnkelchfaaGreat
