import Derived.Test.YtkjjdgnkelchfaaGreatRows
import Derived.JoinedOf
import Derived.KernelRfl
import Derived.WalkKit
import Derived.OwnWalk
import Derived.Below
import Derived.Laws.CopyOwn
import Derived.Laws.BytesString
import Derived.Laws.OwnMore
import Derived.Lib.Hide
import Derived.Deep.Draws
import Derived.ProofKit
import Derived.OpenShut
import Derived.SizedLaws
import Derived.Test.YtkjjdgnkelchfaaGreatProg
import Derived.OrdersHeld
import Derived.Outline
import Derived.LoopTactic
import Derived.IntWalk
import Derived.Laws.BitsAllLaws
import Derived.Lib.Bytealg
import Derived.Deep.MidRow
import Derived.Laws.Cover3
import Derived.Laws.ResultCell
import Derived.Lib.Strings
import Derived.Lib.Slices
import Derived.Lib.Small
import Derived.Lib.Walk
import Derived.Lib.BitFns
import Derived.Stop.BytesEq
import Derived.Deep.Cut
import Derived.Deep.CutRange
import Derived.Lib.QuoteBits
import Derived.Deep.AppendLies
import Derived.Great.BuildSlice
import Derived.Great.FillDense
import Derived.Deep.Matrix
import Derived.LoopN
import Derived.WideMake
import Derived.StringKeys
import Derived.DeepKeys4
import Derived.WalkSpells
import Derived.Defers
import Derived.Recover
import Derived.Deep.Slices
import Derived.ChangeArms
import Derived.Lib.SlBytesConst
import Derived.ChangeOld
import Derived.ShutString
set_option linter.unusedSimpArgs false
set_option linter.unusedVariables false
set_option maxRecDepth 100000
set_option maxHeartbeats 16000000
namespace Go.Proofs.YtkjjdgnkelchfaaGreat
theorem qa {α : Type _} {xs : Array α} {i : Nat} {d : α} : xs.getD i d = xs[i]?.getD d := Array.getD_eq_getD_getElem?
theorem qb {α : Type _} {xs : List α} {i : Nat} : xs.toArray[i]? = xs[i]? := List.getElem?_toArray
theorem qc {α : Type _} {a : α} {i : Nat} {l : List α} : (a :: l)[i + 1]? = l[i]? := List.getElem?_cons_succ
theorem qd {α : Type _} {a : α} {l : List α} : (a :: l)[0]? = some a := List.getElem?_cons_zero
theorem qe {α : Type _} {a b : α} : (some a).getD b = a := Option.getD_some
theorem qf {α : Type _} (l : List α) (i : Nat) (a : α) : l.toArray.setIfInBounds i a = (l.set i a).toArray := List.setIfInBounds_toArray l i a
theorem qg {α : Type _} {x : α} {xs : List α} {a : α} : (x :: xs).set 0 a = a :: xs := List.set_cons_zero
theorem qh {α : Type _} {x : α} {xs : List α} {i : Nat} {a : α} : (x :: xs).set (i + 1) a = x :: xs.set i a := List.set_cons_succ
theorem qi {α : Type _} {x : α} {xs : List α} {d : α} : (x :: xs).getD 0 d = x := List.getD_cons_zero
theorem qj {α : Type _} {x : α} {xs : List α} {n : Nat} {d : α} : (x :: xs).getD (n + 1) d = xs.getD n d := List.getD_cons_succ
theorem qk {α : Type _} {β : Type _} {f : α → β} {a : α} {l : List α} : List.map f (a :: l) = f a :: List.map f l := List.map_cons
theorem ql {α : Type _} {β : Type _} {f : α → β} : List.map f [] = [] := List.map_nil
theorem qm {α : Type _} {a : α} {xs ys : List α} : a :: xs ++ ys = a :: (xs ++ ys) := List.cons_append
theorem qn {α : Type _} (xs : List α) : [] ++ xs = xs := List.nil_append xs
theorem qo {α : Type _} (xs ys zs : List α) : xs ++ ys ++ zs = xs ++ (ys ++ zs) := List.append_assoc xs ys zs
theorem qp {α : Type _} {xs ys : List α} : (xs ++ ys).length = xs.length + ys.length := List.length_append
theorem qr {α : Type _} {a : α} {xs : List α} : (a :: xs).length = xs.length + 1 := List.length_cons
theorem qs {α : Type _} : ([] : List α).length = 0 := List.length_nil
theorem qt {α : Type _} {x : α} {l : List α} : [x] ++ l = x :: l := List.singleton_append
theorem qu {α : Type _} (xs : List α) : xs ++ [] = xs := List.append_nil xs
theorem eW (w : World) : ∃ u, u = w := ⟨w, rfl⟩
theorem hZ {p : Prop} (h : p) : RowKit.Hid p := Lib.hid h
theorem sA {α : Type _} (a b : List α) : List.Sublist b (a ++ b) := List.sublist_append_right a b
theorem sB {α : Type _} (a : α) (l : List α) : List.Sublist l (a :: l) := List.sublist_cons_self a l
theorem nB {α : Type _} [BEq α] [LawfulBEq α] {a b : α} (h : a ≠ b) : (a == b) = false := beq_eq_false_iff_ne.2 h
structure Bx (p : Prop) : Prop where
  a : p
variable {p q : Prop}
theorem X1 (x : p) (Y : Bx p → q := by
 intro Y
 refine wpList_plain hgd ?_
 intro K hK
 revert K hK
 exact Y.1) : q := Y ⟨x⟩
theorem X2 (x : p) (Y : Bx p → q := by
 intro Y
 have e : Hid ((Lib.len8 x + 9223372036854775808) % 18446744073709551616 - 9223372036854775808 = (Lib.bitLen x.toNat : Int)) := Lib.len8_int x h0 h1
 revert e
 exact Y.1) : q := Y ⟨x⟩
theorem X3 (x : p) (Y : Bx p → q := by
 intro Y
 simp only [pick, qk, ql, qi, qj]
 exact Y.1) : q := Y ⟨x⟩
theorem X4 (x : p) (Y : Bx p → q := by
 intro Y
 refine xab (v := ?_) rfl rfl hS ?_ ?_; rotate_left; (· intro W hW; (try subst hW); go_simp; try with_reducible rfl)
 exact Y.1) : q := Y ⟨x⟩
theorem X5 (x : p) (Y : Bx p → q := by
 intro Y
 simp only [Act.put, qf, qg, qh]
 with_reducible exact Y.1) : q := Y ⟨x⟩
theorem X6 (x : p) (Y : Bx p → q := by
 intro Y
 refine X4 ?_
 simp only [Act.put, qf, qg, qh]
 exact Y.1) : q := Y ⟨x⟩
theorem X7 (x : p) (Y : Bx p → q := by
 intro Y
 refine X6 ?_
 refine X6 ?_
 exact Y.1) : q := Y ⟨x⟩
theorem X8 (x : p) (Y : Bx p → q := by
 intro Y
 refine X5 ?_
 refine X6 ?_
 exact Y.1) : q := Y ⟨x⟩
theorem X9 (x : p) (Y : Bx p → q := by
 intro Y
 refine rg_done (by kernel_rfl) ?_
 exact Y.1) : q := Y ⟨x⟩
theorem Xa (x : p) (Y : Bx p → q := by
 intro Y
 (try simp only [Exit.inBlock, Exit.then])
 exact Y.1) : q := Y ⟨x⟩
theorem Xb (x : p) (Y : Bx p → q := by
 intro Y
 refine xab rfl rfl hS (fun W hW => xhv _ _ rfl _ _ (((4 * k : Nat) : Int)) rfl rfl (by omega) (by omega)) ?_
 exact Y.1) : q := Y ⟨x⟩
theorem Xc (x : p) (Y : Bx p → q := by
 intro Y
 refine xab rfl rfl hS (fun W hW => xbw ia97 _ _ rfl _ _ _ rfl rfl (by omega)) ?_
 exact Y.1) : q := Y ⟨x⟩
theorem Xd (x : p) (Y : Bx p → q := by
 intro Y
 refine xab rfl rfl hS (fun W hW => xbw ia176 _ _ rfl _ _ _ rfl rfl (by omega)) ?_
 exact Y.1) : q := Y ⟨x⟩
theorem Xe (x : p) (Y : Bx p → q := by
 intro Y
 refine xc7 rfl rfl ?_
 intro K hK
 revert K hK
 exact Y.1) : q := Y ⟨x⟩
theorem Xf (x : p) (Y : Bx p → q := by
 intro Y
 refine X5 ?_
 refine Xe ?_; intro K hK
 revert K hK
 exact Y.1) : q := Y ⟨x⟩
theorem Xg (x : p) (Y : Bx p → q := by
 intro Y
 refine hK _ _ (fun h => by cases h) ?_
 exact Y.1) : q := Y ⟨x⟩
theorem Xh (x : p) (Y : Bx p → q := by
 intro Y
 refine xab (v := ?_) rfl rfl hS2 ?_ ?_; rotate_left; (· intro W hW; (try subst hW); go_simp; try with_reducible rfl)
 exact Y.1) : q := Y ⟨x⟩
theorem Xi (x : p) (Y : Bx p → q := by
 intro Y
 refine X5 ?_
 refine Xh ?_
 exact Y.1) : q := Y ⟨x⟩
theorem Xj (x : p) (Y : Bx p → q := by
 intro Y
 refine Xi ?_
 simp only [Act.put, qf, qg, qh]
 exact Y.1) : q := Y ⟨x⟩
theorem Xk (x : p) (Y : Bx p → q := by
 intro Y
 refine xab rfl rfl hS2 (fun W hW => xbw ia176 _ _ rfl _ _ _ rfl rfl (by omega)) ?_
 exact Y.1) : q := Y ⟨x⟩
theorem Xl (x : p) (Y : Bx p → q := by
 intro Y
 refine xab rfl rfl hS2 (fun W hW => xev _ _ rfl _ _ rfl rfl) ?_
 exact Y.1) : q := Y ⟨x⟩
theorem Xm (x : p) (Y : Bx p → q := by
 intro Y
 refine X5 ?_
 refine X9 ?_
 exact Y.1) : q := Y ⟨x⟩
theorem Xn (x : p) (Y : Bx p → q := by
 intro Y
 refine xab (v := ?_) rfl rfl hS3 ?_ ?_; rotate_left; (· intro W hW; (try subst hW); go_simp; try with_reducible rfl)
 exact Y.1) : q := Y ⟨x⟩
theorem Xo (x : p) (Y : Bx p → q := by
 intro Y
 refine X5 ?_
 refine xab rfl rfl hS3 (fun W hW => xbw ia96 _ _ rfl _ 1 _ rfl rfl (by decide)) ?_
 exact Y.1) : q := Y ⟨x⟩
theorem Xp (x : p) (Y : Bx p → q := by
 intro Y
 refine X5 ?_
 refine xab rfl rfl hS3 (fun W hW => xbw ia96 _ _ rfl _ 2 _ rfl rfl (by decide)) ?_
 exact Y.1) : q := Y ⟨x⟩
theorem Xq (x : p) (Y : Bx p → q := by
 intro Y
 refine xab (v := ?_) rfl rfl hS4 ?_ ?_; rotate_left; (· intro W hW; (try subst hW); go_simp; try with_reducible rfl)
 exact Y.1) : q := Y ⟨x⟩
theorem Xr (x : p) (Y : Bx p → q := by
 intro Y
 refine xab rfl rfl hS4 (fun W hW => xbw ia96 _ _ rfl _ _ _ rfl rfl (by omega)) ?_
 exact Y.1) : q := Y ⟨x⟩
theorem Xs (x : p) (Y : Bx p → q := by
 intro Y
 refine wp_region_lit ?_
 exact Y.1) : q := Y ⟨x⟩
theorem Xt (x : p) (Y : Bx p → q := by
 intro Y
 (try simp only [Act.put, qf, qg, qh])
 exact Y.1) : q := Y ⟨x⟩
theorem Xu (x : p) (Y : Bx p → q := by
 intro Y
 refine hK _ _ ?_
 (try simp only [Act.put, qf, qg, qh])
 exact Y.1) : q := Y ⟨x⟩
theorem Xv (x : p) (Y : Bx p → q := by
 intro Y
 simp only [Act.put, Act.eval, qa, qb, qc, qd, qe, qf, qg, qh]
 with_reducible exact Y.1) : q := Y ⟨x⟩
theorem Xw (x : p) (Y : Bx p → q := by
 intro Y
 refine xaa rfl _ (xil _ rfl) ?_
 simp only [Act.put, Act.eval, qa, qb, qc, qd, qe, qf, qg, qh]
 exact Y.1) : q := Y ⟨x⟩
theorem Xx (x : p) (Y : Bx p → q := by
 intro Y
 refine wpList_nil ?_
 exact Y.1) : q := Y ⟨x⟩
theorem Xy (x : p) (Y : Bx p → q := by
 intro Y
 refine Xw ?_
 refine Xx ?_
 exact Y.1) : q := Y ⟨x⟩
theorem Xz (x : p) (Y : Bx p → q := by
 intro Y
 refine Xt ?_
 refine Xy ?_
 exact Y.1) : q := Y ⟨x⟩
theorem X10 (x : p) (Y : Bx p → q := by
 intro Y
 refine xaa rfl _ (xhw _ rfl) ?_
 simp only [Act.put, Act.eval, qa, qb, qc, qd, qe, qf, qg, qh]
 with_reducible exact Y.1) : q := Y ⟨x⟩
theorem X11 (x : p) (Y : Bx p → q := by
 intro Y
 refine Xs ?_
 refine X10 ?_
 exact Y.1) : q := Y ⟨x⟩
theorem X12 (x : p) (Y : Bx p → q := by
 intro Y
 refine xaa rfl _ (xee _ rfl _ rfl) ?_
 simp only [Act.put, qf, qg, qh]
 exact Y.1) : q := Y ⟨x⟩
theorem X13 (x : p) (Y : Bx p → q := by
 intro Y
 refine X11 ?_
 refine X12 ?_
 exact Y.1) : q := Y ⟨x⟩
theorem X14 (x : p) (Y : Bx p → q := by
 intro Y
 refine X5 ?_
 refine X10 ?_
 with_reducible exact Y.1) : q := Y ⟨x⟩
theorem X15 (x : p) (Y : Bx p → q := by
 intro Y
 refine X5 ?_
 refine X12 ?_
 exact Y.1) : q := Y ⟨x⟩
theorem X16 (x : p) (Y : Bx p → q := by
 intro Y
 refine Xt ?_
 refine Xx ?_
 exact Y.1) : q := Y ⟨x⟩
theorem X17 (x : p) (Y : Bx p → q := by
 intro Y
 refine xab rfl rfl hS (fun W hW => xee _ rfl _ rfl) ?_
 exact Y.1) : q := Y ⟨x⟩
theorem X18 (x : p) (Y : Bx p → q := by
 intro Y
 refine X11 ?_
 refine X10 ?_
 exact Y.1) : q := Y ⟨x⟩
theorem X19 (x : p) (Y : Bx p → q := by
 intro Y
 refine X5 ?_
 refine Xy ?_
 exact Y.1) : q := Y ⟨x⟩
theorem X1a (x : p) (Y : Bx p → q := by
 intro Y
 refine xab (v := ?_) rfl rfl hS0 ?_ ?_; rotate_left; (· intro W hW; (try subst hW); go_simp; try with_reducible rfl)
 exact Y.1) : q := Y ⟨x⟩
theorem X1b (x : p) (Y : Bx p → q := by
 intro Y
 refine xbg (xee _ rfl _ rfl) ?_
 exact Y.1) : q := Y ⟨x⟩
theorem X1c (x : p) (Y : Bx p → q := by
 intro Y
 have hbz : Blk (w.alloc (.cells (bvs (zb 32)).toArray 23)) w.heap.size 23 (bvs (zb 32)) := Blk.new _ _ _
 revert hbz
 exact Y.1) : q := Y ⟨x⟩
theorem X1d (x : p) (Y : Bx p → q := by
 intro Y
 have hw0 : Below w.heap.size w (w.alloc (.cells (bvs (zb 32)).toArray 23)) := (Below.refl _ _).alloc (Nat.le_refl _) _
 revert hw0
 exact Y.1) : q := Y ⟨x⟩
theorem X1e (x : p) (Y : Bx p → q := by
 intro Y
 refine X14 ?_
 refine Xx ?_
 exact Y.1) : q := Y ⟨x⟩
theorem X1f (x : p) (Y : Bx p → q := by
 intro Y
 refine Xw ?_
 refine Xy ?_
 exact Y.1) : q := Y ⟨x⟩
theorem X1g (x : p) (Y : Bx p → q := by
 intro Y
 refine X5 ?_
 refine X1f ?_
 exact Y.1) : q := Y ⟨x⟩
theorem X1h (x : p) (Y : Bx p → q := by
 intro Y
 refine X5 ?_
 refine xab rfl rfl hS (fun W hW => xcl ia25 _ rfl (w.heap.size + 1) 0 rfl) ?_
 exact Y.1) : q := Y ⟨x⟩
theorem X1i (x : p) (Y : Bx p → q := by
 intro Y
 have hS1 := xhx (w0.drew.alloc (.cells #[.slice (some ⟨w.heap.size, 0, none⟩) 32 32, .slice (some ⟨w.heap.size + 1, 0, none⟩) 32 32] 25))
 revert hS1
 exact Y.1) : q := Y ⟨x⟩
theorem X1j (x : p) (Y : Bx p → q := by
 intro Y
 refine Xs ?_
 refine Xy ?_
 exact Y.1) : q := Y ⟨x⟩
theorem X1k (x : p) (Y : Bx p → q := by
 intro Y
 refine xaa rfl ?_ ?_ ?_; rotate_left; (· go_simp; try with_reducible rfl)
 exact Y.1) : q := Y ⟨x⟩
theorem X1l (x : p) (Y : Bx p → q := by
 intro Y
 refine X1k ?_
 refine X14 ?_
 with_reducible exact Y.1) : q := Y ⟨x⟩
theorem X1m (x : p) (Y : Bx p → q := by
 intro Y
 refine xad rfl _ (xhw _ rfl) ?_
 simp only [Act.put, Act.eval, qa, qb, qc, qd, qe, qf, qg, qh]
 with_reducible exact Y.1) : q := Y ⟨x⟩
theorem X1n (x : p) (Y : Bx p → q := by
 intro Y
 refine X1l ?_
 refine X1m ?_
 exact Y.1) : q := Y ⟨x⟩
theorem X1o (x : p) (Y : Bx p → q := by
 intro Y
 refine X11 ?_
 refine X1n ?_
 exact Y.1) : q := Y ⟨x⟩
theorem X1p (x : p) (Y : Bx p → q := by
 intro Y
 refine xad rfl _ (xee _ rfl _ rfl) ?_
 simp only [Act.put, qf, qg, qh]
 exact Y.1) : q := Y ⟨x⟩
theorem X1q (x : p) (Y : Bx p → q := by
 intro Y
 refine X1o ?_
 refine X1p ?_
 exact Y.1) : q := Y ⟨x⟩
theorem X1r (x : p) (Y : Bx p → q := by
 intro Y
 refine X5 ?_
 refine xad rfl _ (xdb sc3 HL _ rfl _ rfl _ (by with_reducible assumption)) ?_
 exact Y.1) : q := Y ⟨x⟩
theorem X1s (x : p) (Y : Bx p → q := by
 intro Y
 refine xad rfl ?_ ?_ ?_; rotate_left; (· go_simp; try with_reducible rfl)
 exact Y.1) : q := Y ⟨x⟩
theorem X1t (x : p) (Y : Bx p → q := by
 intro Y
 refine X1k ?_
 refine X19 ?_
 exact Y.1) : q := Y ⟨x⟩
theorem X1u (x : p) (Y : Bx p → q := by
 intro Y
 refine X5 ?_
 refine X1t ?_
 exact Y.1) : q := Y ⟨x⟩
theorem X1v (x : p) (Y : Bx p → q := by
 intro Y
 refine X1s ?_
 refine X1u ?_
 exact Y.1) : q := Y ⟨x⟩
theorem X1w (x : p) (Y : Bx p → q := by
 intro Y
 refine wpList_plain rfl ?_
 intro K hK
 revert K hK
 exact Y.1) : q := Y ⟨x⟩
theorem X1x (x : p) (Y : Bx p → q := by
 intro Y
 refine X11 ?_
 refine X1w ?_; intro K hK
 revert K hK
 exact Y.1) : q := Y ⟨x⟩
theorem X1y (x : p) (Y : Bx p → q := by
 intro Y
 simp only [qk, ql, Act.eval, qa, qb, qc, qd, qe]
 exact Y.1) : q := Y ⟨x⟩
theorem X1z (x : p) (Y : Bx p → q := by
 intro Y
 refine X1x ?_; intro K hK
 refine xac cf213 rfl _ rfl ?_
 simp only [qk, ql, Act.eval, qa, qb, qc, qd, qe]
 revert K hK
 exact Y.1) : q := Y ⟨x⟩
theorem X20 (x : p) (Y : Bx p → q := by
 intro Y
 refine ⟨_, rfl, hK _ _ ?_⟩
 exact Y.1) : q := Y ⟨x⟩
theorem X21 (x : p) (Y : Bx p → q := by
 intro Y
 refine X5 ?_
 refine Xx ?_
 exact Y.1) : q := Y ⟨x⟩
theorem X22 (x : p) (Y : Bx p → q := by
 intro Y
 refine X20 ?_
 refine X21 ?_
 exact Y.1) : q := Y ⟨x⟩
theorem X23 (x : p) (Y : Bx p → q := by
 intro Y
 refine xaa rfl _ (xaf xma _ rfl _ rfl) ?_
 exact Y.1) : q := Y ⟨x⟩
theorem X24 (x : p) (Y : Bx p → q := by
 intro Y
 refine xaa rfl _ (xdb sc3 HL _ rfl _ rfl _ (by with_reducible assumption)) ?_
 exact Y.1) : q := Y ⟨x⟩
theorem X25 (x : p) (Y : Bx p → q := by
 intro Y
 have C := fun u => hZ (xfa (w := u) (D := D) (g := g) (σ := σ) (vs := vs) (vf := vf))
 have HL := Loc.start w
 revert C HL
 exact Y.1) : q := Y ⟨x⟩
theorem X26 (x : p) (Y : Bx p → q := by
 intro Y
 refine X14 ?_
 refine X1m ?_
 exact Y.1) : q := Y ⟨x⟩
theorem X27 (x : p) (Y : Bx p → q := by
 intro Y
 refine X5 ?_
 refine X1n ?_
 exact Y.1) : q := Y ⟨x⟩
theorem X28 (x : p) (Y : Bx p → q := by
 intro Y
 refine X5 ?_
 refine xad rfl _ (xdb sc316 HL _ rfl _ rfl _ (by with_reducible assumption)) ?_
 exact Y.1) : q := Y ⟨x⟩
theorem X29 (x : p) (Y : Bx p → q := by
 intro Y
 refine X1k ?_
 refine X21 ?_
 exact Y.1) : q := Y ⟨x⟩
theorem X2a (x : p) (Y : Bx p → q := by
 intro Y
 refine X5 ?_
 refine X29 ?_
 exact Y.1) : q := Y ⟨x⟩
theorem X2b (x : p) (Y : Bx p → q := by
 intro Y
 refine X1s ?_
 refine X2a ?_
 exact Y.1) : q := Y ⟨x⟩
theorem X2c (x : p) (Y : Bx p → q := by
 intro Y
 refine X5 ?_
 refine X2b ?_
 exact Y.1) : q := Y ⟨x⟩
theorem X2d (x : p) (Y : Bx p → q := by
 intro Y
 refine X5 ?_
 refine X1l ?_
 with_reducible exact Y.1) : q := Y ⟨x⟩
theorem X2e (x : p) (Y : Bx p → q := by
 intro Y
 refine no_implicit_lambda% (xkl ?_ ?_); rfl
 simp only [Act.put, qf, qg, qh]
 with_reducible exact Y.1) : q := Y ⟨x⟩
theorem X2f (x : p) (Y : Bx p → q := by
 intro Y
 refine no_implicit_lambda% (X2e ?_)
 refine no_implicit_lambda% (X2e ?_)
 with_reducible exact Y.1) : q := Y ⟨x⟩
theorem X2g (x : p) (Y : Bx p → q := by
 intro Y
 refine no_implicit_lambda% (X2f ?_)
 refine no_implicit_lambda% (X2f ?_)
 with_reducible exact Y.1) : q := Y ⟨x⟩
theorem X2h (x : p) (Y : Bx p → q := by
 intro Y
 refine xai xfg rfl rfl HL ?_
 intro g4 w HL
 refine X19 ?_
 revert g4 w HL
 exact Y.1) : q := Y ⟨x⟩
theorem X2i (x : p) (Y : Bx p → q := by
 intro Y
 refine xai xfg rfl rfl HL ?_
 intro g6 w HL
 revert g6 w HL
 exact Y.1) : q := Y ⟨x⟩
theorem X2j (x : p) (Y : Bx p → q := by
 intro Y
 with_reducible refine (xfa (HH.out.1.below HL.below)).mono ?_
 exact Y.1) : q := Y ⟨x⟩
theorem X2k (x : p) (Y : Bx p → q := by
 intro Y
 refine X18 ?_
 refine X1w ?_; intro K hK
 revert K hK
 exact Y.1) : q := Y ⟨x⟩
theorem X2l (x : p) (Y : Bx p → q := by
 intro Y
 refine xac cf231 rfl _ rfl ?_
 exact Y.1) : q := Y ⟨x⟩
theorem X2m (x : p) (Y : Bx p → q := by
 intro Y
 with_reducible refine (xk3 (HH.out.1.below HL.below) n i HH.out.2.1 hi HH.out.2.2).mono ?_
 exact Y.1) : q := Y ⟨x⟩
theorem X2n (x : p) (Y : Bx p → q := by
 intro Y
 refine X20 ?_
 refine X19 ?_
 exact Y.1) : q := Y ⟨x⟩
theorem X2o (x : p) (Y : Bx p → q := by
 intro Y
 refine X11 ?_
 refine X29 ?_
 exact Y.1) : q := Y ⟨x⟩
theorem X2p (x : p) (Y : Bx p → q := by
 intro Y
 refine X5 ?_
 refine xbn xeg rfl _ _ rfl HL 1 _ _ _ _ rfl rfl rfl (Nd.len _) (Nd.len _) (Nd.one _) ?_
 exact Y.1) : q := Y ⟨x⟩
theorem X2q (x : p) (Y : Bx p → q := by
 intro Y
 intro w HL
 simp only [qg, qh] at HL
 revert w HL
 exact Y.1) : q := Y ⟨x⟩
theorem X2r (x : p) (Y : Bx p → q := by
 intro Y
 refine bodyPost_ret (xby rfl xeg _ _ g4 230 _ rfl (HL.blk (.tail _ (.head _))) (Nd.len _)) rfl ?_
 exact Y.1) : q := Y ⟨x⟩
theorem X2s (x : p) (Y : Bx p → q := by
 intro Y
 refine xaa rfl _ (xb5 xeg HL _ rfl _ rfl _ _ (.head _) (Nd.len _)) ?_
 exact Y.1) : q := Y ⟨x⟩
theorem X2t (x : p) (Y : Bx p → q := by
 intro Y
 refine Xs ?_
 refine xcb rfl _ rfl HL _ rfl ?_
 intro g5 w HL
 revert g5 w HL
 exact Y.1) : q := Y ⟨x⟩
theorem X2u (x : p) (Y : Bx p → q := by
 intro Y
 refine X2q ?_; intro w HL
 refine X16 ?_
 revert w HL
 exact Y.1) : q := Y ⟨x⟩
theorem X2v (x : p) (Y : Bx p → q := by
 intro Y
 have HH := hZ (And.intro h (And.intro hn (show σ.slots[i].count ≠ 0 by omega)))
 revert HH
 exact Y.1) : q := Y ⟨x⟩
theorem X2w (x : p) (Y : Bx p → q := by
 intro Y
 refine xaa rfl _ (xg4 xqu _ rfl _ _ rfl) ?_
 simp only [Act.put, qf, qg, qh]
 exact Y.1) : q := Y ⟨x⟩
theorem X2x (x : p) (Y : Bx p → q := by
 intro Y
 refine xaa rfl _ (xah sc3 HL _ rfl _ _ rfl _ _ _ (.head _) HG.out) ?_
 exact Y.1) : q := Y ⟨x⟩
theorem X2y (x : p) (Y : Bx p → q := by
 intro Y
 refine xa1 sc3 rfl _ _ rfl HL 0 G _ 340 _ _ _ rfl rfl rfl rfl hfit HSP.out ?_
 exact Y.1) : q := Y ⟨x⟩
theorem X2z (x : p) (Y : Bx p → q := by
 intro Y
 refine Xs ?_
 refine X1f ?_
 exact Y.1) : q := Y ⟨x⟩
theorem X30 (x : p) (Y : Bx p → q := by
 intro Y
 refine X2w ?_
 refine xaa rfl _ (xah sc3 HL _ rfl _ _ rfl _ _ _ (.head _) HG2.out) ?_
 exact Y.1) : q := Y ⟨x⟩
theorem X31 (x : p) (Y : Bx p → q := by
 intro Y
 refine X18 ?_
 refine X12 ?_
 exact Y.1) : q := Y ⟨x⟩
theorem X32 (x : p) (Y : Bx p → q := by
 intro Y
 refine xaa rfl _ (xaf fa318_1 _ rfl _ rfl) ?_
 exact Y.1) : q := Y ⟨x⟩
theorem X33 (x : p) (Y : Bx p → q := by
 intro Y
 refine X5 ?_
 refine xaa rfl _ (xah sc71 HL _ rfl _ _ rfl _ _ _ (.tail _ (.head _)) (rfl)) ?_
 exact Y.1) : q := Y ⟨x⟩
theorem X34 (x : p) (Y : Bx p → q := by
 intro Y
 refine X2q ?_; intro w HL
 (try simp only [Act.eval, qa, qb, qc, qd, qe] at HL)
 revert w HL
 exact Y.1) : q := Y ⟨x⟩
theorem X35 (x : p) (Y : Bx p → q := by
 intro Y
 refine X34 ?_; intro w HL
 refine X16 ?_
 revert w HL
 exact Y.1) : q := Y ⟨x⟩
theorem X36 (x : p) (Y : Bx p → q := by
 intro Y
 refine X5 ?_
 refine xaa rfl _ (xah sc3 HL _ rfl _ _ rfl _ _ _ (.tail _ (.head _)) (rfl)) ?_
 exact Y.1) : q := Y ⟨x⟩
theorem X37 (x : p) (Y : Bx p → q := by
 intro Y
 refine X5 ?_
 refine xa1 sc3 rfl _ _ rfl HL 1 _ _ _ _ _ _ rfl rfl rfl rfl (by simp) (rfl) ?_
 exact Y.1) : q := Y ⟨x⟩
theorem X38 (x : p) (Y : Bx p → q := by
 intro Y
 have h := xbi ([] : List Value) [Value.pointer none] ([] : List Value) [x0] (by first | rfl | (simp only [D32.cl, Brv.len, Cla.len, Clm.len, Nd.len, Nod.len, Par.len, Plc.len, Prv.len, Sai.len, Say.len, Slo.len, Spv.len, Str.len, qr, qs]))
 revert h
 exact Y.1) : q := Y ⟨x⟩
theorem X39 (x : p) (Y : Bx p → q := by
 intro Y
 refine Xs ?_
 refine xcb rfl _ rfl HL _ rfl ?_
 intro g3 w HL
 revert g3 w HL
 exact Y.1) : q := Y ⟨x⟩
theorem X3a (x : p) (Y : Bx p → q := by
 intro Y
 refine X3 ?_
 replace HL := HL.drew
 revert HL
 exact Y.1) : q := Y ⟨x⟩
theorem X3b (x : p) (Y : Bx p → q := by
 intro Y
 refine xab rfl rfl HL (fun W hW => xhw _ rfl) ?_
 simp only [Act.put, Act.eval, qa, qb, qc, qd, qe, qf, qg, qh]
 exact Y.1) : q := Y ⟨x⟩
theorem X3c (x : p) (Y : Bx p → q := by
 intro Y
 refine X3a ?_; intro HL
 refine X3b ?_
 revert HL
 exact Y.1) : q := Y ⟨x⟩
theorem X3d (x : p) (Y : Bx p → q := by
 intro Y
 refine xab rfl rfl HL (fun W hW => xee _ rfl _ rfl) ?_
 simp only [Act.put, qf, qg, qh]
 exact Y.1) : q := Y ⟨x⟩
theorem X3e (x : p) (Y : Bx p → q := by
 intro Y
 refine X3c ?_; intro HL
 refine X3d ?_
 revert HL
 exact Y.1) : q := Y ⟨x⟩
theorem X3f (x : p) (Y : Bx p → q := by
 intro Y
 refine xab rfl rfl HL (fun W hW => xah sc3 hW _ rfl _ _ rfl _ _ _ (.tail _ (.tail _ (.head _))) (rfl)) ?_
 exact Y.1) : q := Y ⟨x⟩
theorem X3g (x : p) (Y : Bx p → q := by
 intro Y
 refine X5 ?_
 refine X3b ?_
 exact Y.1) : q := Y ⟨x⟩
theorem X3h (x : p) (Y : Bx p → q := by
 intro Y
 refine X3g ?_
 refine X3d ?_
 exact Y.1) : q := Y ⟨x⟩
theorem X3i (x : p) (Y : Bx p → q := by
 intro Y
 refine xab (v := ?_) rfl rfl HL ?_ ?_; rotate_left; (· intro W hW; go_simp; try with_reducible rfl)
 exact Y.1) : q := Y ⟨x⟩
theorem X3j (x : p) (Y : Bx p → q := by
 intro Y
 refine X5 ?_
 refine X3i ?_
 exact Y.1) : q := Y ⟨x⟩
theorem X3k (x : p) (Y : Bx p → q := by
 intro Y
 refine X3j ?_
 refine Xm ?_
 exact Y.1) : q := Y ⟨x⟩
theorem X3l (x : p) (Y : Bx p → q := by
 intro Y
 refine xaa rfl _ (xay _ _ rfl _ _ _ rfl rfl HU.out (by omega)) ?_
 refine X15 ?_
 exact Y.1) : q := Y ⟨x⟩
theorem X3m (x : p) (Y : Bx p → q := by
 intro Y
 refine xaa rfl _ (xah sc71 HL _ rfl _ _ rfl _ _ _ (.tail _ (.tail _ (.head _))) (rfl)) ?_
 exact Y.1) : q := Y ⟨x⟩
theorem X3n (x : p) (Y : Bx p → q := by
 intro Y
 refine xaa rfl _ (xcs Tryz.underlying71 _ rfl _ _ _ rfl) ?_
 exact Y.1) : q := Y ⟨x⟩
theorem X3o (x : p) (Y : Bx p → q := by
 intro Y
 refine X14 ?_
 refine xaa rfl _ (xa7 _ _ rfl _ _ _ rfl rfl HF1.out (by omega)) ?_
 exact Y.1) : q := Y ⟨x⟩
theorem X3p (x : p) (Y : Bx p → q := by
 intro Y
 refine xab rfl rfl HL (fun W hW => xb5 xeg hW _ rfl _ rfl _ _ (.head _) (Nd.len _)) ?_
 exact Y.1) : q := Y ⟨x⟩
theorem X3q (x : p) (Y : Bx p → q := by
 intro Y
 refine X5 ?_
 refine xab rfl rfl HL (fun W hW => xbq bs340 _ rfl _ (by exact bd340_33 _)) ?_
 exact Y.1) : q := Y ⟨x⟩
theorem X3r (x : p) (Y : Bx p → q := by
 intro Y
 refine X11 ?_
 refine X1f ?_
 exact Y.1) : q := Y ⟨x⟩
theorem X3s (x : p) (Y : Bx p → q := by
 intro Y
 refine xab rfl rfl HL (fun W hW => xah sc3 hW _ rfl _ _ rfl _ _ _ (.tail _ (.head _)) (rfl)) ?_
 exact Y.1) : q := Y ⟨x⟩
theorem X3t (x : p) (Y : Bx p → q := by
 intro Y
 refine X3b ?_
 refine X3b ?_
 exact Y.1) : q := Y ⟨x⟩
theorem X3u (x : p) (Y : Bx p → q := by
 intro Y
 refine X3a ?_; intro HL
 refine X3t ?_
 revert HL
 exact Y.1) : q := Y ⟨x⟩
theorem X3v (x : p) (Y : Bx p → q := by
 intro Y
 refine hK _ _ (fun _ => HL) ?_
 exact Y.1) : q := Y ⟨x⟩
theorem X3w (x : p) (Y : Bx p → q := by
 intro Y
 refine X3v ?_
 simp only [Act.put, qf, qg, qh]
 exact Y.1) : q := Y ⟨x⟩
theorem X3x (x : p) (Y : Bx p → q := by
 intro Y
 refine X3v ?_
 refine Xf ?_; intro K hK
 revert K hK
 exact Y.1) : q := Y ⟨x⟩
theorem X3y (x : p) (Y : Bx p → q := by
 intro Y
 refine X1b ?_
 refine X3x ?_; intro K hK
 revert K hK
 exact Y.1) : q := Y ⟨x⟩
theorem X3z (x : p) (Y : Bx p → q := by
 intro Y
 refine X1x ?_; intro K hK
 refine xac cf132 rfl _ rfl ?_
 simp only [qk, ql, Act.eval, qa, qb, qc, qd, qe]
 revert K hK
 exact Y.1) : q := Y ⟨x⟩
theorem X40 (x : p) (Y : Bx p → q := by
 intro Y
 refine X13 ?_
 refine xaa rfl _ (xaf xl9 _ rfl _ rfl) ?_
 simp only [Act.put, qf, qg, qh]
 exact Y.1) : q := Y ⟨x⟩
theorem X41 (x : p) (Y : Bx p → q := by
 intro Y
 refine xaa rfl _ (xdb sc252 HL _ rfl _ rfl _ (by with_reducible assumption)) ?_
 exact Y.1) : q := Y ⟨x⟩
theorem X42 (x : p) (Y : Bx p → q := by
 intro Y
 refine X14 ?_
 refine X1w ?_; intro K hK
 revert K hK
 exact Y.1) : q := Y ⟨x⟩
theorem X43 (x : p) (Y : Bx p → q := by
 intro Y
 rintro e w ⟨rfl, hb⟩
 replace HL := HL.next hb
 revert w hb HL
 exact Y.1) : q := Y ⟨x⟩
theorem X44 (x : p) (Y : Bx p → q := by
 intro Y
 refine X43 ?_; intro w hb HL
 clear hb
 revert w HL
 exact Y.1) : q := Y ⟨x⟩
theorem X45 (x : p) (Y : Bx p → q := by
 intro Y
 refine X44 ?_; intro w HL
 refine X20 ?_
 revert w HL
 exact Y.1) : q := Y ⟨x⟩
theorem X46 (x : p) (Y : Bx p → q := by
 intro Y
 refine xaa rfl _ (xg5 _ rfl _ _ rfl rfl) ?_
 exact Y.1) : q := Y ⟨x⟩
theorem X47 (x : p) (Y : Bx p → q := by
 intro Y
 refine X46 ?_
 simp only [Act.put, qf, qg, qh]
 exact Y.1) : q := Y ⟨x⟩
theorem X48 (x : p) (Y : Bx p → q := by
 intro Y
 refine X47 ?_
 refine X47 ?_
 exact Y.1) : q := Y ⟨x⟩
theorem X49 (x : p) (Y : Bx p → q := by
 intro Y
 refine X14 ?_
 refine X48 ?_
 exact Y.1) : q := Y ⟨x⟩
theorem X4a (x : p) (Y : Bx p → q := by
 intro Y
 refine X45 ?_; intro w HL
 refine X49 ?_
 revert w HL
 exact Y.1) : q := Y ⟨x⟩
theorem X4b (x : p) (Y : Bx p → q := by
 intro Y
 refine xbn xeg rfl _ _ rfl HL 0 _ _ _ _ rfl rfl rfl (Nd.len _) (Nd.len _) (Nd.one _) ?_
 exact Y.1) : q := Y ⟨x⟩
theorem X4c (x : p) (Y : Bx p → q := by
 intro Y
 refine X34 ?_; intro w HL
 refine Xz ?_
 revert w HL
 exact Y.1) : q := Y ⟨x⟩
theorem X4d (x : p) (Y : Bx p → q := by
 intro Y
 refine X5 ?_
 refine X4b ?_
 refine X4c ?_; intro w HL
 revert w HL
 exact Y.1) : q := Y ⟨x⟩
theorem X4e (x : p) (Y : Bx p → q := by
 intro Y
 refine X2i ?_; intro g6 w HL
 refine X4d ?_; clear HL; intro w HL
 revert g6 w HL
 exact Y.1) : q := Y ⟨x⟩
theorem X4f (x : p) (Y : Bx p → q := by
 intro Y
 refine X4a ?_; intro w HL
 refine X4e ?_; clear HL; intro g6 w HL
 revert g6 w HL
 exact Y.1) : q := Y ⟨x⟩
theorem X4g (x : p) (Y : Bx p → q := by
 intro Y
 refine xac cf133 rfl _ rfl ?_
 simp only [qk, ql, Act.eval, qa, qb, qc, qd, qe]
 exact Y.1) : q := Y ⟨x⟩
theorem X4h (x : p) (Y : Bx p → q := by
 intro Y
 refine X2k ?_; intro K hK
 refine X4g ?_
 revert K hK
 exact Y.1) : q := Y ⟨x⟩
theorem X4i (x : p) (Y : Bx p → q := by
 intro Y
 with_reducible refine (xfp (h.below HL.below) z n val ok hG).mono ?_
 exact Y.1) : q := Y ⟨x⟩
theorem X4j (x : p) (Y : Bx p → q := by
 intro Y
 refine X4a ?_; intro w HL
 refine xai xfg rfl rfl HL ?_
 clear HL
 intro g5 w HL
 refine X4d ?_; clear HL; intro w HL
 revert g5 w HL
 exact Y.1) : q := Y ⟨x⟩
theorem X4k (x : p) (Y : Bx p → q := by
 intro Y
 refine Xs ?_
 refine xaa rfl _ (xaf fa230_1 _ rfl _ rfl) ?_
 simp only [Act.put, qf, qg, qh]
 exact Y.1) : q := Y ⟨x⟩
theorem X4l (x : p) (Y : Bx p → q := by
 intro Y
 refine xaa rfl _ (xah sc30 HL _ rfl _ _ rfl _ _ _ (.head _) (Nd.g_kind _)) ?_
 exact Y.1) : q := Y ⟨x⟩
theorem X4m (x : p) (Y : Bx p → q := by
 intro Y
 refine xaa rfl _ (xaf xqr _ rfl _ rfl) ?_
 exact Y.1) : q := Y ⟨x⟩
theorem X4n (x : p) (Y : Bx p → q := by
 intro Y
 refine X5 ?_
 refine xaa rfl _ (xah sc3 HL _ rfl _ _ rfl _ _ _ (.head _) (Nd.g_held _)) ?_
 exact Y.1) : q := Y ⟨x⟩
theorem X4o (x : p) (Y : Bx p → q := by
 intro Y
 refine xab rfl rfl HL (fun W hW => xil _ rfl) ?_
 simp only [Act.put, Act.eval, qa, qb, qc, qd, qe, qf, qg, qh]
 exact Y.1) : q := Y ⟨x⟩
theorem X4p (x : p) (Y : Bx p → q := by
 intro Y
 refine X4o ?_
 refine X9 ?_
 exact Y.1) : q := Y ⟨x⟩
theorem X4q (x : p) (Y : Bx p → q := by
 intro Y
 refine X4o ?_
 refine X4p ?_
 exact Y.1) : q := Y ⟨x⟩
theorem X4r (x : p) (Y : Bx p → q := by
 intro Y
 refine Xs ?_
 refine xaa rfl _ (xaf xl7 _ rfl _ rfl) ?_
 simp only [Act.put, qf, qg, qh]
 exact Y.1) : q := Y ⟨x⟩
theorem X4s (x : p) (Y : Bx p → q := by
 intro Y
 refine xaa rfl _ (xbt ag24 HL _ rfl _ _ rfl _ _ _ (.head _) (Nd.g_key _) (D32.cl _)) ?_
 exact Y.1) : q := Y ⟨x⟩
theorem X4t (x : p) (Y : Bx p → q := by
 intro Y
 with_reducible refine (xfp (h.below HL.below) z n val true hG).mono ?_
 exact Y.1) : q := Y ⟨x⟩
theorem X4u (x : p) (Y : Bx p → q := by
 intro Y
 with_reducible refine (xep (h.below HL.below)).mono ?_
 exact Y.1) : q := Y ⟨x⟩
theorem X4v (x : p) (Y : Bx p → q := by
 intro Y
 refine X5 ?_
 refine xbn ag23 rfl _ _ rfl HL 1 _ _ _ _ rfl rfl rfl (D32.cl _) (D32.cl _) (D32.c1 _) ?_
 exact Y.1) : q := Y ⟨x⟩
theorem X4w (x : p) (Y : Bx p → q := by
 intro Y
 refine bodyPost_ret (xb3 rfl ag23 _ _ g4 23 _ rfl (HL.blk (.tail _ (.head _))) (D32.cl _)) rfl ?_
 exact Y.1) : q := Y ⟨x⟩
theorem X4x (x : p) (Y : Bx p → q := by
 intro Y
 refine X45 ?_; intro w HL
 simp only [Act.put, qf, qg, qh]
 revert w HL
 exact Y.1) : q := Y ⟨x⟩
theorem X4y (x : p) (Y : Bx p → q := by
 intro Y
 refine xbn ag23 rfl _ _ rfl HL 0 _ _ _ _ rfl rfl rfl (D32.cl _) (D32.cl _) (D32.c1 _) ?_
 exact Y.1) : q := Y ⟨x⟩
theorem X4z (x : p) (Y : Bx p → q := by
 intro Y
 refine X5 ?_
 refine X1w ?_; intro K hK
 revert K hK
 exact Y.1) : q := Y ⟨x⟩
theorem X50 (x : p) (Y : Bx p → q := by
 intro Y
 refine X5 ?_
 refine xad rfl _ (xah sc3 HL _ rfl _ _ rfl _ _ _ (.head _) (Nd.g_depth _)) ?_
 exact Y.1) : q := Y ⟨x⟩
theorem X51 (x : p) (Y : Bx p → q := by
 intro Y
 refine X20 ?_
 refine X49 ?_
 exact Y.1) : q := Y ⟨x⟩
theorem X52 (x : p) (Y : Bx p → q := by
 intro Y
 have hB : Below w0.heap.size w0 w := HL.below
 revert hB
 exact Y.1) : q := Y ⟨x⟩
theorem X53 (x : p) (Y : Bx p → q := by
 intro Y
 have hgs : Old w0 gs ∧ ¬ SbS g vs vf gs := ⟨HH.out.blk.lt, HH.out.sbs⟩
 revert hgs
 exact Y.1) : q := Y ⟨x⟩
theorem X54 (x : p) (Y : Bx p → q := by
 intro Y
 have HX := HL.less (D' := fun k => Old w0 k ∧ ¬ SbS g vs vf k) (fun k hk => hk.1)
 revert HX
 exact Y.1) : q := Y ⟨x⟩
theorem X55 (x : p) (Y : Bx p → q := by
 intro Y
 refine xab rfl rfl HL (fun W hW => xaf xl9 _ rfl _ rfl) ?_
 exact Y.1) : q := Y ⟨x⟩
theorem X56 (x : p) (Y : Bx p → q := by
 intro Y
 refine xab rfl rfl HL (fun W hW => xax sc252 hW _ rfl _ rfl _ hgs hcs) ?_
 exact Y.1) : q := Y ⟨x⟩
theorem X57 (x : p) (Y : Bx p → q := by
 intro Y
 refine ⟨_, rfl, hK _ _ (fun _ => HL) ?_⟩
 exact Y.1) : q := Y ⟨x⟩
theorem X58 (x : p) (Y : Bx p → q := by
 intro Y
 refine X57 ?_
 simp only [Act.put, qf, qg, qh]
 exact Y.1) : q := Y ⟨x⟩
theorem X59 (x : p) (Y : Bx p → q := by
 intro Y
 refine X2k ?_; intro K hK
 refine xac cf189 rfl _ rfl ?_
 simp only [qk, ql, Act.eval, qa, qb, qc, qd, qe]
 revert K hK
 exact Y.1) : q := Y ⟨x⟩
theorem X5a (x : p) (Y : Bx p → q := by
 intro Y
 refine xac cf150 rfl _ rfl ?_
 simp only [qk, ql, Act.eval, qa, qb, qc, qd, qe]
 exact Y.1) : q := Y ⟨x⟩
theorem X5b (x : p) (Y : Bx p → q := by
 intro Y
 with_reducible refine ((C _).out).mono ?_
 exact Y.1) : q := Y ⟨x⟩
theorem X5c (x : p) (Y : Bx p → q := by
 intro Y
 refine X11 ?_
 refine X1l ?_
 with_reducible exact Y.1) : q := Y ⟨x⟩
theorem X5d (x : p) (Y : Bx p → q := by
 intro Y
 refine X11 ?_
 refine X1t ?_
 exact Y.1) : q := Y ⟨x⟩
theorem X5e (x : p) (Y : Bx p → q := by
 intro Y
 refine xac cf250 rfl _ rfl ?_
 simp only [qk, ql, Act.eval, qa, qb, qc, qd, qe]
 exact Y.1) : q := Y ⟨x⟩
theorem X5f (x : p) (Y : Bx p → q := by
 intro Y
 refine xad rfl _ (xb5 xeg HL _ rfl _ rfl _ _ (.head _) (Nd.len _)) ?_
 simp only [Act.put, qf, qg, qh]
 exact Y.1) : q := Y ⟨x⟩
theorem X5g (x : p) (Y : Bx p → q := by
 intro Y
 refine xjt rfl ?_
 intro K hK
 revert K hK
 exact Y.1) : q := Y ⟨x⟩
theorem X5h (x : p) (Y : Bx p → q := by
 intro Y
 refine X1m ?_
 refine X5g ?_; intro K hK
 revert K hK
 exact Y.1) : q := Y ⟨x⟩
theorem X5i (x : p) (Y : Bx p → q := by
 intro Y
 refine X20 ?_
 simp only [Act.put, qf, qg, qh]
 exact Y.1) : q := Y ⟨x⟩
theorem X5j (x : p) (Y : Bx p → q := by
 intro Y
 with_reducible refine (xep (HH.out.sw.below HL.below)).mono ?_
 exact Y.1) : q := Y ⟨x⟩
theorem X5k (x : p) (Y : Bx p → q := by
 intro Y
 refine xaa rfl _ (xcs Tryz.underlying25 _ rfl _ _ _ rfl) ?_
 exact Y.1) : q := Y ⟨x⟩
theorem X5l (x : p) (Y : Bx p → q := by
 intro Y
 refine xac cf42 rfl _ rfl ?_
 simp only [qk, ql, Act.eval, qa, qb, qc, qd, qe]
 exact Y.1) : q := Y ⟨x⟩
theorem X5m (x : p) (Y : Bx p → q := by
 intro Y
 refine X5 ?_
 refine X4y ?_
 exact Y.1) : q := Y ⟨x⟩
theorem X5n (x : p) (Y : Bx p → q := by
 intro Y
 have hSO : ∀ k, SbS g vs vf k → Old w0 k := fun k hk => HH.out.sb.lt k (HH.out.sb.own k hk)
 revert hSO
 exact Y.1) : q := Y ⟨x⟩
theorem X5o (x : p) (Y : Bx p → q := by
 intro Y
 refine xab rfl rfl HL (fun W hW => xb5 ag24 hW _ rfl _ rfl _ _ (.tail _ (.head _)) (D32.cl _)) ?_
 exact Y.1) : q := Y ⟨x⟩
theorem X5p (x : p) (Y : Bx p → q := by
 intro Y
 refine xac cf41 rfl _ rfl ?_
 simp only [qk, ql, Act.eval, qa, qb, qc, qd, qe]
 exact Y.1) : q := Y ⟨x⟩
theorem X5q (x : p) (Y : Bx p → q := by
 intro Y
 have hB1 : Below w1.heap.size w1 w := ((Below.refl _ _).drew).trans hb
 revert hB1
 exact Y.1) : q := Y ⟨x⟩
theorem X5r (x : p) (Y : Bx p → q := by
 intro Y
 refine xab rfl rfl HL (fun W hW => xbq bs228 _ rfl _ (by exact bd228_27 _)) ?_
 exact Y.1) : q := Y ⟨x⟩
theorem X5s (x : p) (Y : Bx p → q := by
 intro Y
 refine xac cf208 rfl _ rfl ?_
 simp only [qk, ql, Act.eval, qa, qb, qc, qd, qe]
 exact Y.1) : q := Y ⟨x⟩
theorem X5t (x : p) (Y : Bx p → q := by
 intro Y
 refine xab rfl rfl HL (fun W hW => xg5 _ rfl _ _ rfl rfl) ?_
 simp only [Act.put, qf, qg, qh]
 exact Y.1) : q := Y ⟨x⟩
theorem X5u (x : p) (Y : Bx p → q := by
 intro Y
 refine X5t ?_
 refine X5t ?_
 exact Y.1) : q := Y ⟨x⟩
theorem X5v (x : p) (Y : Bx p → q := by
 intro Y
 refine X5u ?_
 refine X4q ?_
 exact Y.1) : q := Y ⟨x⟩
theorem X5w (x : p) (Y : Bx p → q := by
 intro Y
 have hb2 : Blk w gs 256 [.pointer (some ⟨g, 0, none⟩)] := HL.far hgs HH.out.blk
 revert hb2
 exact Y.1) : q := Y ⟨x⟩
theorem X5x (x : p) (Y : Bx p → q := by
 intro Y
 have GL : Hid (Got σ left nl σ.slots[i].val true) := hZ (.inl ⟨rfl, i, eL, hi, hnl, rfl, hcl⟩)
 have HE := hZ (And.intro eL hnl)
 revert GL HE
 exact Y.1) : q := Y ⟨x⟩
theorem X5y (x : p) (Y : Bx p → q := by
 intro Y
 have GR : Hid (Got σ right nr σ.slots[j].val true) := hZ (.inl ⟨rfl, j, eR, hj, hnr, rfl, hcr⟩)
 have HR := hZ (And.intro eR hnr)
 revert GR HR
 exact Y.1) : q := Y ⟨x⟩
theorem X5z (x : p) (Y : Bx p → q := by
 intro Y
 refine xaa rfl _ (exec_bs0 bs230 rfl) ?_
 exact Y.1) : q := Y ⟨x⟩
theorem X60 (x : p) (Y : Bx p → q := by
 intro Y
 refine xaa rfl _ (xbq bs353 _ rfl _ (by exact bd353_29 _ _ rfl)) ?_
 exact Y.1) : q := Y ⟨x⟩
theorem X61 (x : p) (Y : Bx p → q := by
 intro Y
 refine xsj sl354 el353 (by decide) rfl _ _ rfl HL _ _ rfl rfl rfl rfl ?_
 intro g33 w HL
 simp only [Act.eval, qa, qb, qc, qd, qe, qm, qn] at HL
 revert g33 w HL
 exact Y.1) : q := Y ⟨x⟩
theorem X62 (x : p) (Y : Bx p → q := by
 intro Y
 refine xaa rfl _ (xcs Tryz.underlying354 _ rfl _ _ _ rfl) ?_
 exact Y.1) : q := Y ⟨x⟩
theorem X63 (x : p) (Y : Bx p → q := by
 intro Y
 refine wp_loop_rounds 3 ?_
 exact Y.1) : q := Y ⟨x⟩
theorem X64 (x : p) (Y : Bx p → q := by
 intro Y
 refine Xs ?_
 refine X29 ?_
 exact Y.1) : q := Y ⟨x⟩
theorem X65 (x : p) (Y : Bx p → q := by
 intro Y
 refine xaa rfl _ (xbc sl354 _ _ rfl _ _ _ 0 _ rfl rfl (by decide)) ?_
 exact Y.1) : q := Y ⟨x⟩
theorem X66 (x : p) (Y : Bx p → q := by
 intro Y
 refine xaa rfl _ (xbt xk2 HL _ rfl _ _ rfl _ _ [.int .i64 left, .pointer (some ⟨g10, 0, none⟩)] (.head _) rfl rfl) ?_
 exact Y.1) : q := Y ⟨x⟩
theorem X67 (x : p) (Y : Bx p → q := by
 intro Y
 refine X5 ?_
 refine xai zr353 rfl rfl HL ?_
 intro g13 w HL
 revert g13 w HL
 exact Y.1) : q := Y ⟨x⟩
theorem X68 (x : p) (Y : Bx p → q := by
 intro Y
 refine xbn xk2 rfl _ _ rfl HL 0 _ _ _ _ rfl rfl rfl (rfl) (rfl) ((by simp [Value.oneCell'])) ?_
 exact Y.1) : q := Y ⟨x⟩
theorem X69 (x : p) (Y : Bx p → q := by
 intro Y
 refine X5 ?_
 refine xaa rfl _ (xah sc3 HL _ rfl _ _ rfl _ _ _ (.head _) (rfl)) ?_
 exact Y.1) : q := Y ⟨x⟩
theorem X6a (x : p) (Y : Bx p → q := by
 intro Y
 refine xaa rfl _ (xaf fa353_0 _ rfl _ rfl) ?_
 refine X69 ?_
 exact Y.1) : q := Y ⟨x⟩
theorem X6b (x : p) (Y : Bx p → q := by
 intro Y
 refine X6a ?_
 refine X2a ?_
 exact Y.1) : q := Y ⟨x⟩
theorem X6c (x : p) (Y : Bx p → q := by
 intro Y
 with_reducible refine (xfp (HH.out.sw.below HL.below) _ _ _ true GL.out).mono ?_
 exact Y.1) : q := Y ⟨x⟩
theorem X6d (x : p) (Y : Bx p → q := by
 intro Y
 refine X4a ?_; intro w HL
 refine xai xfg rfl rfl HL ?_
 clear HL
 intro g14 w HL
 refine X4d ?_; clear HL; intro w HL
 revert g14 w HL
 exact Y.1) : q := Y ⟨x⟩
theorem X6e (x : p) (Y : Bx p → q := by
 intro Y
 refine X5c ?_
 refine xad rfl _ (xaf xqr _ rfl _ rfl) ?_
 exact Y.1) : q := Y ⟨x⟩
theorem X6f (x : p) (Y : Bx p → q := by
 intro Y
 refine xad rfl _ (xah sc3 HL _ rfl _ _ rfl _ _ _ (.head _) (Nd.g_held _)) ?_
 refine X2c ?_
 exact Y.1) : q := Y ⟨x⟩
theorem X6g (x : p) (Y : Bx p → q := by
 intro Y
 refine xaa rfl _ (xaf fa353_1 _ rfl _ rfl) ?_
 exact Y.1) : q := Y ⟨x⟩
theorem X6h (x : p) (Y : Bx p → q := by
 intro Y
 refine xaa rfl _ (xah sc352 HL _ rfl _ _ rfl _ _ _ (.tail _ (.head _)) (rfl)) ?_
 exact Y.1) : q := Y ⟨x⟩
theorem X6i (x : p) (Y : Bx p → q := by
 intro Y
 refine xbn xeg rfl _ _ rfl HL 4 _ _ _ _ rfl rfl rfl (Nd.len _) (Nd.len _) (Nd.one _) ?_
 exact Y.1) : q := Y ⟨x⟩
theorem X6j (x : p) (Y : Bx p → q := by
 intro Y
 refine Xs ?_
 refine X1l ?_
 refine Xx ?_
 exact Y.1) : q := Y ⟨x⟩
theorem X6k (x : p) (Y : Bx p → q := by
 intro Y
 refine xaa rfl _ (xbc sl354 _ _ rfl _ _ _ 1 _ rfl rfl (by decide)) ?_
 exact Y.1) : q := Y ⟨x⟩
theorem X6l (x : p) (Y : Bx p → q := by
 intro Y
 refine X4g ?_
 with_reducible refine (xfp (HH.out.sw.below HL.below) _ _ _ true GR.out).mono ?_
 exact Y.1) : q := Y ⟨x⟩
theorem X6m (x : p) (Y : Bx p → q := by
 intro Y
 refine X18 ?_
 refine X10 ?_
 exact Y.1) : q := Y ⟨x⟩
theorem X6n (x : p) (Y : Bx p → q := by
 intro Y
 refine xaa rfl _ (xb5 xeg HL _ rfl _ rfl _ _ (.tail _ (.tail _ (.tail _ (.tail _ (.tail _ (.head _)))))) (Nd.len _)) ?_
 exact Y.1) : q := Y ⟨x⟩
theorem X6o (x : p) (Y : Bx p → q := by
 intro Y
 refine xbn ag24 rfl _ _ rfl HL 0 _ _ _ _ rfl rfl rfl (D32.cl _) (D32.cl _) (D32.c1 _) ?_
 exact Y.1) : q := Y ⟨x⟩
theorem X6p (x : p) (Y : Bx p → q := by
 intro Y
 refine X5 ?_
 refine X6o ?_
 exact Y.1) : q := Y ⟨x⟩
theorem X6q (x : p) (Y : Bx p → q := by
 intro Y
 refine xaa rfl _ (xb5 ag24 HL _ rfl _ rfl _ _ (.head _) (D32.cl _)) ?_
 exact Y.1) : q := Y ⟨x⟩
theorem X6r (x : p) (Y : Bx p → q := by
 intro Y
 refine rB (Loc.P HL) [] [6, 9, 10, 22] [0, 1, 2, 3, 4, 5, 7, 8, 12, 13, 14, 15, 16, 17, 18, 19, 20, 6, 9, 10, 11, 21, 22, 23, 24, 25, 26, 27] 0 ?_
 exact Y.1) : q := Y ⟨x⟩
theorem X6s (x : p) (Y : Bx p → q := by
 intro Y
 refine X5 ?_
 refine X3t ?_
 exact Y.1) : q := Y ⟨x⟩
theorem X6t (x : p) (Y : Bx p → q := by
 intro Y
 refine X6s ?_
 refine X3t ?_
 exact Y.1) : q := Y ⟨x⟩
theorem X6u (x : p) (Y : Bx p → q := by
 intro Y
 refine xab rfl rfl HL (fun W hW => xb5 ag24 hW _ rfl _ rfl _ _ (.head _) (D32.cl _)) ?_
 exact Y.1) : q := Y ⟨x⟩
theorem X6v (x : p) (Y : Bx p → q := by
 intro Y
 refine xab rfl rfl HL (fun W hW => xaf xqq _ rfl _ rfl) ?_
 exact Y.1) : q := Y ⟨x⟩
theorem X6w (x : p) (Y : Bx p → q := by
 intro Y
 refine xab rfl rfl HL (fun W hW => xah sc3 hW _ rfl _ _ rfl _ _ _ (.tail _ (.tail _ (.tail _ (.tail _ (.tail _ (.tail _ (.head _))))))) (Nd.g_size _)) ?_
 exact Y.1) : q := Y ⟨x⟩
theorem X6x (x : p) (Y : Bx p → q := by
 intro Y
 refine xab rfl rfl HL (fun W hW => xay _ _ rfl _ _ _ rfl rfl HZ.out (by omega)) ?_
 exact Y.1) : q := Y ⟨x⟩
theorem X6y (x : p) (Y : Bx p → q := by
 intro Y
 refine xac cf83 rfl _ rfl ?_
 simp only [qk, ql, Act.eval, qa, qb, qc, qd, qe]
 exact Y.1) : q := Y ⟨x⟩
theorem X6z (x : p) (Y : Bx p → q := by
 intro Y
 refine X6y ?_
 with_reducible refine (xf4 (HSW.out.below (Below.refl _ _).drew) left nl _ GL.out).mono ?_
 exact Y.1) : q := Y ⟨x⟩
theorem X70 (x : p) (Y : Bx p → q := by
 intro Y
 refine X57 ?_
 refine Xf ?_; intro K hK
 revert K hK
 exact Y.1) : q := Y ⟨x⟩
theorem X71 (x : p) (Y : Bx p → q := by
 intro Y
 refine X6y ?_
 with_reducible refine (xf4 (HSW.out.below hB1) right nr _ GR.out).mono ?_
 exact Y.1) : q := Y ⟨x⟩
theorem X72 (x : p) (Y : Bx p → q := by
 intro Y
 refine xac cf44 rfl _ rfl ?_
 simp only [qk, ql, Act.eval, qa, qb, qc, qd, qe]
 exact Y.1) : q := Y ⟨x⟩
theorem X73 (x : p) (Y : Bx p → q := by
 intro Y
 refine xab rfl rfl HL (fun W hW => xbq bs230 _ rfl _ (by exact bd230_30 _ _ _ _ _ _)) ?_
 exact Y.1) : q := Y ⟨x⟩
theorem X74 (x : p) (Y : Bx p → q := by
 intro Y
 refine X57 ?_
 refine X3g ?_
 refine X5v ?_
 exact Y.1) : q := Y ⟨x⟩
theorem X75 (x : p) (Y : Bx p → q := by
 intro Y
 have hS1 : Stp D w0 D' w := (Stp.of_below hB).trans ((Stp.of_below hB1).trans hst)
 revert hS1
 exact Y.1) : q := Y ⟨x⟩
theorem X76 (x : p) (Y : Bx p → q := by
 intro Y
 have hP1 : StP D' w gs g _ vs' vf' := ⟨hb2, hst.old _ HH.out.own, hsb⟩
 revert hP1
 exact Y.1) : q := Y ⟨x⟩
theorem X77 (x : p) (Y : Bx p → q := by
 intro Y
 have hS2 := hS1.trans (Stp.of_fr hf2 fun k hk => hP1.sb.own k hk)
 revert hS2
 exact Y.1) : q := Y ⟨x⟩
theorem X78 (x : p) (Y : Bx p → q := by
 intro Y
 refine xaa rfl _ (xb5 xeg HL _ rfl _ rfl _ _ (.tail _ (.tail _ (.tail _ (.tail _ (.head _))))) (Nd.len _)) ?_
 exact Y.1) : q := Y ⟨x⟩
theorem X79 (x : p) (Y : Bx p → q := by
 intro Y
 refine xaa rfl _ (xbt ag24 HL _ rfl _ _ rfl _ _ _ (.tail _ (.tail _ (.tail _ (.tail _ (.tail _ (.head _)))))) (Nd.g_key _) (D32.cl _)) ?_
 exact Y.1) : q := Y ⟨x⟩
theorem X7a (x : p) (Y : Bx p → q := by
 intro Y
 refine xab rfl rfl HL (fun W hW => xah sc3 hW _ rfl _ _ rfl _ _ _ (.tail _ (.tail _ (.tail _ (.tail _ (.tail _ (.head _)))))) (Nd.g_size _)) ?_
 exact Y.1) : q := Y ⟨x⟩
theorem X7b (x : p) (Y : Bx p → q := by
 intro Y
 refine X5 ?_
 refine X1k ?_
 exact Y.1) : q := Y ⟨x⟩
theorem X7c (x : p) (Y : Bx p → q := by
 intro Y
 refine X49 ?_
 refine X1f ?_
 exact Y.1) : q := Y ⟨x⟩
theorem X7d (x : p) (Y : Bx p → q := by
 intro Y
 refine X20 ?_
 refine X7c ?_
 exact Y.1) : q := Y ⟨x⟩
theorem X7e (x : p) (Y : Bx p → q := by
 intro Y
 refine X1y ?_
 with_reducible refine (xnv (HH.out.below HL.below) _ _ _ true HGG.out).mono ?_
 exact Y.1) : q := Y ⟨x⟩
theorem X7f (x : p) (Y : Bx p → q := by
 intro Y
 refine X44 ?_; intro w HL
 refine X58 ?_
 revert w HL
 exact Y.1) : q := Y ⟨x⟩
theorem X7g (x : p) (Y : Bx p → q := by
 intro Y
 refine Xw ?_
 refine X1f ?_
 exact Y.1) : q := Y ⟨x⟩
theorem X7h (x : p) (Y : Bx p → q := by
 intro Y
 refine xac cf154 rfl _ rfl ?_
 exact Y.1) : q := Y ⟨x⟩
theorem X7i (x : p) (Y : Bx p → q := by
 intro Y
 refine X45 ?_; intro w HL
 refine X19 ?_
 revert w HL
 exact Y.1) : q := Y ⟨x⟩
theorem X7j (x : p) (Y : Bx p → q := by
 intro Y
 refine X11 ?_
 refine Xy ?_
 exact Y.1) : q := Y ⟨x⟩
theorem X7k (x : p) (Y : Bx p → q := by
 intro Y
 refine xac cf136 rfl _ rfl ?_
 simp only [qk, ql, Act.eval, qa, qb, qc, qd, qe]
 exact Y.1) : q := Y ⟨x⟩
theorem X7l (x : p) (Y : Bx p → q := by
 intro Y
 refine X2k ?_; intro K hK
 refine X7k ?_
 revert K hK
 exact Y.1) : q := Y ⟨x⟩
theorem X7m (x : p) (Y : Bx p → q := by
 intro Y
 refine Xs ?_
 refine X1t ?_
 exact Y.1) : q := Y ⟨x⟩
theorem X7n (x : p) (Y : Bx p → q := by
 intro Y
 refine xac cf142 rfl _ rfl ?_
 exact Y.1) : q := Y ⟨x⟩
theorem X7o (x : p) (Y : Bx p → q := by
 intro Y
 refine xaa rfl _ (xa4 (b := true) _ _ rfl _ _ rfl rfl k1) ?_
 exact Y.1) : q := Y ⟨x⟩
theorem X7p (x : p) (Y : Bx p → q := by
 intro Y
 refine Xs ?_
 refine xcb rfl _ rfl HL _ rfl ?_
 intro g6 w HL
 revert g6 w HL
 exact Y.1) : q := Y ⟨x⟩
theorem X7q (x : p) (Y : Bx p → q := by
 intro Y
 have hg6 : w0.heap.size ≤ g6 := Nat.le_of_not_lt (HL.own _ (.tail _ (.head _))).1
 have hg8 : w0.heap.size ≤ g8 := Nat.le_of_not_lt (HL.own _ (.head _)).1
 revert hg6 hg8
 exact Y.1) : q := Y ⟨x⟩
theorem X7r (x : p) (Y : Bx p → q := by
 intro Y
 have h68 : g8 ≠ g6 := (List.pairwise_cons.1 HL.nd).1 _ (.head _)
 have hg6l : g6 < w.heap.size := (HL.blk (.tail _ (.head _))).lt
 revert h68 hg6l
 exact Y.1) : q := Y ⟨x⟩
theorem X7s (x : p) (Y : Bx p → q := by
 intro Y
 refine xaa rfl _ (xb5 ag24 HL _ rfl _ rfl _ _ (.tail _ (.head _)) (D32.cl _)) ?_
 exact Y.1) : q := Y ⟨x⟩
theorem X7t (x : p) (Y : Bx p → q := by
 intro Y
 with_reducible refine (xpk (HH.out.below HL.below) root key way fin HW.out hl HR.out).mono ?_
 exact Y.1) : q := Y ⟨x⟩
theorem X7u (x : p) (Y : Bx p → q := by
 intro Y
 refine xaa rfl _ (xaf fa246_0 _ rfl _ rfl) ?_
 exact Y.1) : q := Y ⟨x⟩
theorem X7v (x : p) (Y : Bx p → q := by
 intro Y
 refine xaa rfl _ (xaf xl8 _ rfl _ rfl) ?_
 exact Y.1) : q := Y ⟨x⟩
theorem X7w (x : p) (Y : Bx p → q := by
 intro Y
 refine xaa rfl _ (xah sc3 HL _ rfl _ _ rfl _ _ _ (.head _) (Plc.g_fin _)) ?_
 exact Y.1) : q := Y ⟨x⟩
theorem X7x (x : p) (Y : Bx p → q := by
 intro Y
 with_reducible refine (xd5 (HH.out.below (hB1.trans (HL.belowR _ hB1.size hL0))) _ n val ok HG.out).mono ?_
 exact Y.1) : q := Y ⟨x⟩
theorem X7y (x : p) (Y : Bx p → q := by
 intro Y
 refine rg_skip rfl rfl HL ?_
 (try simp only [Act.put, qf, qg, qh])
 exact Y.1) : q := Y ⟨x⟩
theorem X7z (x : p) (Y : Bx p → q := by
 intro Y
 refine X7y ?_
 refine X7y ?_
 exact Y.1) : q := Y ⟨x⟩
theorem X80 (x : p) (Y : Bx p → q := by
 intro Y
 refine X7z ?_
 refine X7z ?_
 exact Y.1) : q := Y ⟨x⟩
theorem X81 (x : p) (Y : Bx p → q := by
 intro Y
 refine rg_pass rfl rfl HL ?_
 (try simp only [Act.put, qf, qg, qh])
 exact Y.1) : q := Y ⟨x⟩
theorem X82 (x : p) (Y : Bx p → q := by
 intro Y
 have hb8 : Blk w g8 246 (Plc.cells ⟨v, fin, false, false⟩) := HL.blk (.head _)
 have HX := HL.drop [(g6, 24, key.c)] (.cons _ (.refl _))
 revert hb8 HX
 exact Y.1) : q := Y ⟨x⟩
theorem X83 (x : p) (Y : Bx p → q := by
 intro Y
 refine rB (Loc.P HL) [] [5, 17, 19] [0, 1, 2, 3, 4, 7, 8, 11, 5, 6, 9, 10, 12, 13, 14, 15, 16, 17, 18, 19] 0 ?_
 exact Y.1) : q := Y ⟨x⟩
theorem X84 (x : p) (Y : Bx p → q := by
 intro Y
 refine Xs ?_
 refine xaa rfl _ (xb5 ag246 HL _ rfl _ rfl _ _ (.head _) (Plc.len _)) ?_
 exact Y.1) : q := Y ⟨x⟩
theorem X85 (x : p) (Y : Bx p → q := by
 intro Y
 refine xbn ag246 rfl _ _ rfl HL 0 _ _ _ _ rfl rfl rfl (Plc.len _) (Plc.len _) (Plc.one _) ?_
 exact Y.1) : q := Y ⟨x⟩
theorem X86 (x : p) (Y : Bx p → q := by
 intro Y
 refine Xa ?_
 refine bodyPost_ret (xb3 rfl ag246 _ _ g8 246 _ rfl (HL.blk (.head _)) (Plc.len _)) rfl ?_
 exact Y.1) : q := Y ⟨x⟩
theorem X87 (x : p) (Y : Bx p → q := by
 intro Y
 refine xab rfl rfl HL (fun W hW => xah sc3 hW _ rfl _ _ rfl _ _ _ (.head _) (Plc.g_fin _)) ?_
 exact Y.1) : q := Y ⟨x⟩
theorem X88 (x : p) (Y : Bx p → q := by
 intro Y
 refine xac cf148 rfl _ rfl ?_
 simp only [qk, ql, Act.eval, qa, qb, qc, qd, qe]
 exact Y.1) : q := Y ⟨x⟩
theorem X89 (x : p) (Y : Bx p → q := by
 intro Y
 refine X6s ?_
 refine X3b ?_
 exact Y.1) : q := Y ⟨x⟩
theorem X8a (x : p) (Y : Bx p → q := by
 intro Y
 refine xac cf153 rfl _ rfl ?_
 simp only [qk, ql, Act.eval, qa, qb, qc, qd, qe]
 exact Y.1) : q := Y ⟨x⟩
theorem X8b (x : p) (Y : Bx p → q := by
 intro Y
 refine X10 ?_
 refine X1w ?_; intro K hK
 revert K hK
 exact Y.1) : q := Y ⟨x⟩
theorem X8c (x : p) (Y : Bx p → q := by
 intro Y
 refine X6m ?_
 refine X8b ?_; intro K hK
 revert K hK
 exact Y.1) : q := Y ⟨x⟩
theorem X8d (x : p) (Y : Bx p → q := by
 intro Y
 refine xac cf210 rfl _ rfl ?_
 simp only [qk, ql, Act.eval, qa, qb, qc, qd, qe]
 exact Y.1) : q := Y ⟨x⟩
theorem X8e (x : p) (Y : Bx p → q := by
 intro Y
 refine xaa rfl _ (xa3 (b := false) _ _ rfl _ _ rfl rfl kroom) ?_
 refine X21 ?_
 exact Y.1) : q := Y ⟨x⟩
theorem X8f (x : p) (Y : Bx p → q := by
 intro Y
 refine xaa rfl _ (xch (b := false) _ _ rfl _ _ rfl rfl klen) ?_
 refine X21 ?_
 exact Y.1) : q := Y ⟨x⟩
theorem X8g (x : p) (Y : Bx p → q := by
 intro Y
 refine X1y ?_
 with_reducible refine (fits1 (HH.out.below HL.below).sw ⟨r1, r2⟩ HF.out).mono ?_
 exact Y.1) : q := Y ⟨x⟩
theorem X8h (x : p) (Y : Bx p → q := by
 intro Y
 refine xaa rfl _ (xah sc4 HL _ rfl _ _ rfl _ _ _ (.head _) (Plc.g_same _)) ?_
 refine X21 ?_
 exact Y.1) : q := Y ⟨x⟩
theorem X8i (x : p) (Y : Bx p → q := by
 intro Y
 have HX := HL.less (D' := fun k => Old w0 k ∧ ¬ D k) (fun k hk => hk.1)
 revert HX
 exact Y.1) : q := Y ⟨x⟩
theorem X8j (x : p) (Y : Bx p → q := by
 intro Y
 refine xac cf146 rfl _ rfl ?_
 simp only [qk, ql, Act.eval, qa, qb, qc, qd, qe]
 exact Y.1) : q := Y ⟨x⟩
theorem X8k (x : p) (Y : Bx p → q := by
 intro Y
 refine xaa rfl _ (xah sc4 HL _ rfl _ _ rfl _ _ _ (.head _) (Plc.g_other _)) ?_
 refine X21 ?_
 exact Y.1) : q := Y ⟨x⟩
theorem X8l (x : p) (Y : Bx p → q := by
 intro Y
 refine xaa rfl _ (xah sc71 HL _ rfl _ _ rfl _ _ _ (.head _) (Plc.g_above _)) ?_
 exact Y.1) : q := Y ⟨x⟩
theorem X8m (x : p) (Y : Bx p → q := by
 intro Y
 refine xac cf130 rfl _ rfl ?_
 simp only [qk, ql, Act.eval, qa, qb, qc, qd, qe]
 exact Y.1) : q := Y ⟨x⟩
theorem X8n (x : p) (Y : Bx p → q := by
 intro Y
 refine xaa rfl _ (xa3 (b := false) _ _ rfl _ _ rfl rfl k1) ?_
 exact Y.1) : q := Y ⟨x⟩
theorem X8o (x : p) (Y : Bx p → q := by
 intro Y
 refine Xt ?_
 refine xaa rfl _ (xbq bs259 _ rfl _ (by exact bd259_35 _ rfl _ rfl)) ?_
 exact Y.1) : q := Y ⟨x⟩
theorem X8p (x : p) (Y : Bx p → q := by
 intro Y
 have hB1 := HL.below.trans (hb.mono HL.below.size)
 have hnew2 : ∀ k, D k → w0.heap.size ≤ k := fun k hk => Nat.le_trans HL.below.size (hnew k hk)
 revert hB1 hnew2
 exact Y.1) : q := Y ⟨x⟩
theorem X8q (x : p) (Y : Bx p → q := by
 intro Y
 refine X11 ?_
 refine xaa rfl _ (xbq bs163 _ rfl _ (by exact bd163_23 _ rfl)) ?_
 exact Y.1) : q := Y ⟨x⟩
theorem X8r (x : p) (Y : Bx p → q := by
 intro Y
 refine X14 ?_
 refine xaa rfl _ (xbq bs166 _ rfl _ (by exact bd166_24 _ _ rfl)) ?_
 exact Y.1) : q := Y ⟨x⟩
theorem X8s (x : p) (Y : Bx p → q := by
 intro Y
 refine xaa rfl _ (xav Tryz.underlying71 _ rfl ⟨some ⟨gT, 0, none⟩, m + 1, cap⟩ (m + 1) rfl rfl) ?_
 exact Y.1) : q := Y ⟨x⟩
theorem X8t (x : p) (Y : Bx p → q := by
 intro Y
 refine X40 ?_
 refine xaa rfl _ (xax sc252 HL _ rfl _ rfl _ HGO.out HGC.out) ?_
 exact Y.1) : q := Y ⟨x⟩
theorem X8u (x : p) (Y : Bx p → q := by
 intro Y
 have HL2 := (HL.less (D' := fun _ => False) (fun _ f => f.elim)).redo hf (fun x hx hs => (HL.own x hx).1 (HD.out _ (hPw.sb.own _ hs)))
 revert HL2
 exact Y.1) : q := Y ⟨x⟩
theorem X8v (x : p) (Y : Bx p → q := by
 intro Y
 simp only [List.count_append, List.count_cons, List.count_nil, beq_iff_eq]
 exact Y.1) : q := Y ⟨x⟩
theorem X8w (x : p) (Y : Bx p → q := by
 intro Y
 refine xaa rfl _ (xhg _ _ rfl nr nl 0 .i64 nr rfl rfl (by decide) rfl) ?_
 exact Y.1) : q := Y ⟨x⟩
theorem X8x (x : p) (Y : Bx p → q := by
 intro Y
 refine X11 ?_
 refine xaa rfl _ (xa4 (b := true) _ _ rfl _ _ rfl rfl kR) ?_
 exact Y.1) : q := Y ⟨x⟩
theorem X8y (x : p) (Y : Bx p → q := by
 intro Y
 refine xcm sl71 el3 rfl _ rfl HL _ rfl rfl ?_
 intro g82 w HL
 (try simp only [Act.eval, qa, qb, qc, qd, qe] at HL)
 revert g82 w HL
 exact Y.1) : q := Y ⟨x⟩
theorem X8z (x : p) (Y : Bx p → q := by
 intro Y
 refine hK _ _ ?_
 refine Xz ?_
 exact Y.1) : q := Y ⟨x⟩
theorem X90 (x : p) (Y : Bx p → q := by
 intro Y
 refine xaa rfl _ (xhg _ _ rfl nr nl 1 .i64 nl rfl rfl (by decide) rfl) ?_
 exact Y.1) : q := Y ⟨x⟩
theorem X91 (x : p) (Y : Bx p → q := by
 intro Y
 refine X11 ?_
 refine xaa rfl _ (xa4 (b := true) _ _ rfl _ _ rfl rfl kL) ?_
 exact Y.1) : q := Y ⟨x⟩
theorem X92 (x : p) (Y : Bx p → q := by
 intro Y
 have hPw : StP D2 w gs g (σ1.letGo j) vs1 vf2 := HP3.out.fr HL.fr (fun k hk n => n (HD2.out k hk))
 revert hPw
 exact Y.1) : q := Y ⟨x⟩
theorem X93 (x : p) (Y : Bx p → q := by
 intro Y
 refine X11 ?_
 refine xaa rfl _ (xa4 (b := false) _ _ rfl _ _ rfl rfl kL) ?_
 exact Y.1) : q := Y ⟨x⟩
theorem X94 (x : p) (Y : Bx p → q := by
 intro Y
 refine X11 ?_
 refine xaa rfl _ (xa4 (b := false) _ _ rfl _ _ rfl rfl kR) ?_
 exact Y.1) : q := Y ⟨x⟩
theorem X95 (x : p) (Y : Bx p → q := by
 intro Y
 refine X7k ?_
 with_reducible refine (xd5 (HH.out.sw.below HL.below) _ n val ok HG.out).mono ?_
 exact Y.1) : q := Y ⟨x⟩
theorem X96 (x : p) (Y : Bx p → q := by
 intro Y
 refine xad rfl _ (xei (b := true) _ _ rfl _ _ rfl rfl k6) ?_
 refine X1u ?_
 exact Y.1) : q := Y ⟨x⟩
theorem X97 (x : p) (Y : Bx p → q := by
 intro Y
 refine X7k ?_
 with_reducible refine (xd5 (HH.out.sw.below HL.below) _ _ _ true HK.out).mono ?_
 exact Y.1) : q := Y ⟨x⟩
theorem X98 (x : p) (Y : Bx p → q := by
 intro Y
 refine xad rfl _ (xei (b := false) _ _ rfl _ _ rfl rfl k6) ?_
 refine X1u ?_
 exact Y.1) : q := Y ⟨x⟩
theorem X99 (x : p) (Y : Bx p → q := by
 intro Y
 refine X14 ?_
 refine no_implicit_lambda% (X2g ?_)
 with_reducible exact Y.1) : q := Y ⟨x⟩
theorem X9a (x : p) (Y : Bx p → q := by
 intro Y
 have HI : Hid ((i : Int) + 1 = ((i + 1 : Nat) : Int)) := hZ (by omega)
 revert HI
 exact Y.1) : q := Y ⟨x⟩
theorem X9b (x : p) (Y : Bx p → q := by
 intro Y
 have HSV : Hid (Value.slice A n c = .slice (some ad) n c) := hZ (by rw [hA])
 revert HSV
 exact Y.1) : q := Y ⟨x⟩
theorem X9c (x : p) (Y : Bx p → q := by
 intro Y
 refine xaa rfl _ (xcs Tryz.underlying220 _ rfl _ _ _ rfl) ?_
 exact Y.1) : q := Y ⟨x⟩
theorem X9d (x : p) (Y : Bx p → q := by
 intro Y
 refine xaa rfl _ (xbm _ _ rfl _ _ rfl rfl k3) ?_
 exact Y.1) : q := Y ⟨x⟩
theorem X9e (x : p) (Y : Bx p → q := by
 intro Y
 refine X1m ?_
 refine xad rfl _ (xbf xcd (.tmp 11) _ rfl ad n c i .i64 HSV.out rfl hlt) ?_
 exact Y.1) : q := Y ⟨x⟩
theorem X9f (x : p) (Y : Bx p → q := by
 intro Y
 refine xad rfl _ (xbx ag24 _ rfl _ ws[i].key.c rfl (HK _ HL.below).out (by omega) (D32.cl _)) ?_
 exact Y.1) : q := Y ⟨x⟩
theorem X9g (x : p) (Y : Bx p → q := by
 intro Y
 refine xaa rfl _ (xay _ _ rfl _ _ _ rfl rfl HI.out (by omega)) ?_
 exact Y.1) : q := Y ⟨x⟩
theorem X9h (x : p) (Y : Bx p → q := by
 intro Y
 refine xaa rfl _ (xaf xg8 _ rfl _ rfl) ?_
 simp only [Act.put, qf, qg, qh]
 exact Y.1) : q := Y ⟨x⟩
theorem X9i (x : p) (Y : Bx p → q := by
 intro Y
 refine X9h ?_
 refine xaa rfl _ (xbt ag24 HL _ rfl _ _ rfl _ _ _ (.head _) (Wrt.g_key _) (D32.cl _)) ?_
 exact Y.1) : q := Y ⟨x⟩
theorem X9j (x : p) (Y : Bx p → q := by
 intro Y
 refine X11 ?_
 refine xaa rfl _ (xay _ _ rfl _ _ _ rfl rfl H01.out (by omega)) ?_
 exact Y.1) : q := Y ⟨x⟩
theorem X9k (x : p) (Y : Bx p → q := by
 intro Y
 have HI1 : Hid ((i : Int) + 1 = ((i + 1 : Nat) : Int)) := hZ (by omega)
 revert HI1
 exact Y.1) : q := Y ⟨x⟩
theorem X9l (x : p) (Y : Bx p → q := by
 intro Y
 refine xaa rfl _ (xbm _ _ rfl _ _ rfl rfl k14) ?_
 exact Y.1) : q := Y ⟨x⟩
theorem X9m (x : p) (Y : Bx p → q := by
 intro Y
 refine rB (Loc.P HL) [] [14] [0, 1, 2, 3, 4, 5, 6, 7, 8, 9, 10, 11, 12, 13, 14, 15, 16] 0 ?_
 exact Y.1) : q := Y ⟨x⟩
theorem X9n (x : p) (Y : Bx p → q := by
 intro Y
 refine xaa rfl _ (xay _ _ rfl _ _ _ rfl rfl HI1.out (by omega)) ?_
 exact Y.1) : q := Y ⟨x⟩
theorem X9o (x : p) (Y : Bx p → q := by
 intro Y
 refine X11 ?_
 refine X9n ?_
 refine X19 ?_
 exact Y.1) : q := Y ⟨x⟩
theorem X9p (x : p) (Y : Bx p → q := by
 intro Y
 refine xab rfl rfl HL (fun W hW => xch (b := true) _ _ rfl _ _ rfl rfl k2) ?_
 refine X6t ?_
 exact Y.1) : q := Y ⟨x⟩
theorem X9q (x : p) (Y : Bx p → q := by
 intro Y
 refine xab rfl rfl HL (fun W hW => xbc xcd _ _ rfl g n c (m + 1) .i64 rfl rfl hjn) ?_
 exact Y.1) : q := Y ⟨x⟩
theorem X9r (x : p) (Y : Bx p → q := by
 intro Y
 refine xab rfl rfl HL (fun W hW => xbt ag222 hW _ rfl g ((m + 1) * 34) rfl 222 _ x.cells (.head _) Hx (Wrt.len _)) ?_
 exact Y.1) : q := Y ⟨x⟩
theorem X9s (x : p) (Y : Bx p → q := by
 intro Y
 refine xab rfl rfl HL (fun W hW => xa7 _ _ rfl _ _ _ rfl rfl HJ1.out (by omega)) ?_
 exact Y.1) : q := Y ⟨x⟩
theorem X9t (x : p) (Y : Bx p → q := by
 intro Y
 refine xab rfl rfl HL (fun W hW => xbc xcd _ _ rfl g n c m .i64 rfl rfl (by omega)) ?_
 exact Y.1) : q := Y ⟨x⟩
theorem X9u (x : p) (Y : Bx p → q := by
 intro Y
 refine xab rfl rfl HL (fun W hW => xbt ag222 hW _ rfl g (m * 34) rfl 222 _ y.cells (.head _) Hy (Wrt.len _)) ?_
 exact Y.1) : q := Y ⟨x⟩
theorem X9v (x : p) (Y : Bx p → q := by
 intro Y
 refine X3 ?_
 refine Xe ?_; intro K hK
 revert K hK
 exact Y.1) : q := Y ⟨x⟩
theorem X9w (x : p) (Y : Bx p → q := by
 intro Y
 refine xbg (xb8 ag222 _ rfl g ((m + 1) * 34) 222 _ _ rfl hb Hx (Wrt.len _)) ?_
 refine X3w ?_
 exact Y.1) : q := Y ⟨x⟩
theorem X9x (x : p) (Y : Bx p → q := by
 intro Y
 refine xbs ag222.i _ _ rfl g ((m + 1) * 34) 222 _ _ rfl rfl hb (Wrt.len _) hjl (Wrt.one _) ?_
 exact Y.1) : q := Y ⟨x⟩
theorem X9y (x : p) (Y : Bx p → q := by
 intro Y
 have HL2 : Loc w0 (fun _ => False) [] _ := ⟨⟨hf2.os, hf2.tape, hf2.output, hf2.size, fun k hk hn => absurd not_false hn⟩, fun x h => by simp at h, List.Pairwise.nil, fun k h => h.elim⟩
 revert HL2
 exact Y.1) : q := Y ⟨x⟩
theorem X9z (x : p) (Y : Bx p → q := by
 intro Y
 refine hK _ _ (fun _ => HL2) ?_
 simp only [Act.put, qf, qg, qh]
 exact Y.1) : q := Y ⟨x⟩
theorem Xa0 (x : p) (Y : Bx p → q := by
 intro Y
 refine X11 ?_
 refine xaa rfl _ (xa7 _ _ rfl _ _ _ rfl rfl HJ1.out (by omega)) ?_
 exact Y.1) : q := Y ⟨x⟩
theorem Xa1 (x : p) (Y : Bx p → q := by
 intro Y
 refine X18 ?_
 refine xaa rfl _ (xa7 _ _ rfl _ _ _ rfl rfl H0.out (by omega)) ?_
 exact Y.1) : q := Y ⟨x⟩
theorem Xa2 (x : p) (Y : Bx p → q := by
 intro Y
 refine X11 ?_
 refine X9c ?_
 exact Y.1) : q := Y ⟨x⟩
theorem Xa3 (x : p) (Y : Bx p → q := by
 intro Y
 refine Xs ?_
 refine xaa rfl _ (xbm _ _ rfl _ _ rfl rfl k4) ?_
 refine X21 ?_
 exact Y.1) : q := Y ⟨x⟩
theorem Xa4 (x : p) (Y : Bx p → q := by
 intro Y
 refine xaa rfl _ (xbx ag222 _ rfl _ x.cells rfl (HRD _ _ HL).out (by omega) (Wrt.len _)) ?_
 exact Y.1) : q := Y ⟨x⟩
theorem Xa5 (x : p) (Y : Bx p → q := by
 intro Y
 refine xbn ag222 rfl _ _ rfl HL 0 _ _ _ _ rfl rfl rfl (Wrt.len _) (Wrt.len _) (Wrt.one _) ?_
 exact Y.1) : q := Y ⟨x⟩
theorem Xa6 (x : p) (Y : Bx p → q := by
 intro Y
 have HGO : Hid (x.cells[32]? = some (.bool true)) := hZ (by rw [Wrt.g_gone, hg])
 revert HGO
 exact Y.1) : q := Y ⟨x⟩
theorem Xa7 (x : p) (Y : Bx p → q := by
 intro Y
 refine Xs ?_
 refine xaa rfl _ (xaf fa222_1 _ rfl _ rfl) ?_
 simp only [Act.put, qf, qg, qh]
 exact Y.1) : q := Y ⟨x⟩
theorem Xa8 (x : p) (Y : Bx p → q := by
 intro Y
 refine xaa rfl _ (xah sc4 HL _ rfl _ _ rfl _ _ (.bool true) (.head _) HGO.out) ?_
 exact Y.1) : q := Y ⟨x⟩
theorem Xa9 (x : p) (Y : Bx p → q := by
 intro Y
 have HLK : Hid ((∀ p ∈ xdy (out.map fun q => q.1.key), p.1 ≠ .agg y.key.c.toArray) → Value.int .i64 (j : Int) = .int .i64 0 ∧ true = false) := hZ (fun h => absurd rfl (h _ (List.mem_of_getElem? (kvs_some hj))))
 revert HLK
 exact Y.1) : q := Y ⟨x⟩
theorem Xaa (x : p) (Y : Bx p → q := by
 intro Y
 refine X11 ?_
 refine X9i ?_
 exact Y.1) : q := Y ⟨x⟩
theorem Xab (x : p) (Y : Bx p → q := by
 intro Y
 refine xaa rfl _ (xf7 (HMP _ _ HL).out law24 Tryz.underlying334 (zero3 _) (xpt _) HKL.out (.tmp 20) (.tmp 22) rfl rfl rfl (.int .i64 (j : Int)) true ⟨HLK.out, HLK2.out⟩) ?_
 exact Y.1) : q := Y ⟨x⟩
theorem Xac (x : p) (Y : Bx p → q := by
 intro Y
 refine xaa rfl _ (xb5 ag222 HL _ rfl _ rfl _ _ (.head _) (Wrt.len _)) ?_
 exact Y.1) : q := Y ⟨x⟩
theorem Xad (x : p) (Y : Bx p → q := by
 intro Y
 refine X5 ?_
 refine xaa rfl _ (xbc xcd _ _ rfl gG out.length cap j .i64 rfl rfl hjo) ?_
 exact Y.1) : q := Y ⟨x⟩
theorem Xae (x : p) (Y : Bx p → q := by
 intro Y
 have hB2 : Below w0.heap.size w0 w := HB.out.trans (HL.belowR _ HB.out.size (fun u hu => (HGN.out u (by simpa using hu)).1))
 revert hB2
 exact Y.1) : q := Y ⟨x⟩
theorem Xaf (x : p) (Y : Bx p → q := by
 intro Y
 refine Xs ?_
 refine X9g ?_
 refine X1e ?_
 exact Y.1) : q := Y ⟨x⟩
theorem Xag (x : p) (Y : Bx p → q := by
 intro Y
 have HLK : Hid ((∀ p ∈ xdy (out.map fun q => q.1.key), p.1 ≠ .agg y.key.c.toArray) → Value.int .i64 0 = .int .i64 0 ∧ false = false) := hZ (fun _ => ⟨rfl, rfl⟩)
 revert HLK
 exact Y.1) : q := Y ⟨x⟩
theorem Xah (x : p) (Y : Bx p → q := by
 intro Y
 have HLK2 : Hid (∀ (j' : Nat) (u : Value), (xdy (out.map fun q => q.1.key))[j']? = some (.agg y.key.c.toArray, u) → Value.int .i64 0 = u ∧ false = true) := hZ (fun j' u h => absurd (List.mem_of_getElem? (xpu h).1) hin)
 revert HLK2
 exact Y.1) : q := Y ⟨x⟩
theorem Xai (x : p) (Y : Bx p → q := by
 intro Y
 refine xaa rfl _ (xf7 (HMP _ _ HL).out law24 Tryz.underlying334 (zero3 _) (xpt _) HKL.out (.tmp 20) (.tmp 22) rfl rfl rfl (.int .i64 0) false ⟨HLK.out, HLK2.out⟩) ?_
 exact Y.1) : q := Y ⟨x⟩
theorem Xaj (x : p) (Y : Bx p → q := by
 intro Y
 refine X14 ?_
 refine xaa rfl _ (xav Tryz.underlying220 _ rfl sv out.length rfl HSL.out) ?_
 exact Y.1) : q := Y ⟨x⟩
theorem Xak (x : p) (Y : Bx p → q := by
 intro Y
 refine xk5 (key := .agg y.key.c.toArray) (val := .int .i64 (out.length : Int)) (HMP _ _ HL).out law24 Tryz.underlying334 (xpt _) HKL.out (.tmp 31) (.tmp 33) (.tmp 35) rfl rfl rfl rfl (kvs_no HNO.out) ?_
 exact Y.1) : q := Y ⟨x⟩
theorem Xal (x : p) (Y : Bx p → q := by
 intro Y
 refine X16 ?_
 have HDM : Hid (Rest w ((g6, 222, y.cells) :: (G ++ [])) gm) := hZ ⟨HMN.out.lt, fun u hu e => HNE.out u hu e⟩
 revert HDM
 exact Y.1) : q := Y ⟨x⟩
theorem Xam (x : p) (Y : Bx p → q := by
 intro Y
 have hMW := HMN.out.loc HL HDM.out
 have hGo : ∀ u ∈ G', ¬ Rest w3 ((g6, 222, y.cells) :: (G ++ [])) u.1 := fun u hu => (hLd.own u (by simp [hu])).1
 revert hMW hGo
 exact Y.1) : q := Y ⟨x⟩
theorem Xan (x : p) (Y : Bx p → q := by
 intro Y
 have HGO : Hid (x.cells[32]? = some (.bool false)) := hZ (by rw [Wrt.g_gone, hg])
 revert HGO
 exact Y.1) : q := Y ⟨x⟩
theorem Xao (x : p) (Y : Bx p → q := by
 intro Y
 refine xaa rfl _ (xah sc4 HL _ rfl _ _ rfl _ _ (.bool false) (.head _) HGO.out) ?_
 exact Y.1) : q := Y ⟨x⟩
theorem Xap (x : p) (Y : Bx p → q := by
 intro Y
 refine xaa rfl _ (xbx ag61 _ rfl _ x.cells rfl (HRD _ _ HL).out (by omega) (Par.len _)) ?_
 exact Y.1) : q := Y ⟨x⟩
theorem Xaq (x : p) (Y : Bx p → q := by
 intro Y
 refine xbn ag61 rfl _ _ rfl HL 0 _ _ _ _ rfl rfl rfl (Par.len _) (Par.len _) (Par.one _) ?_
 exact Y.1) : q := Y ⟨x⟩
theorem Xar (x : p) (Y : Bx p → q := by
 intro Y
 refine xaa rfl _ (xaf fa61_0 _ rfl _ rfl) ?_
 exact Y.1) : q := Y ⟨x⟩
theorem Xas (x : p) (Y : Bx p → q := by
 intro Y
 refine xaa rfl _ (xbt ag24 HL _ rfl _ _ rfl _ _ _ (.head _) (Par.g_key _) (D32.cl _)) ?_
 exact Y.1) : q := Y ⟨x⟩
theorem Xat (x : p) (Y : Bx p → q := by
 intro Y
 refine xaa rfl _ (xaf fa61_1 _ rfl _ rfl) ?_
 exact Y.1) : q := Y ⟨x⟩
theorem Xau (x : p) (Y : Bx p → q := by
 intro Y
 refine xaa rfl _ (xah sc25 HL _ rfl _ _ rfl _ _ _ (.head _) (Par.g_val _)) ?_
 exact Y.1) : q := Y ⟨x⟩
theorem Xav (x : p) (Y : Bx p → q := by
 intro Y
 refine xaa rfl _ (xbq bs222 _ rfl _ (by exact bd222_02 x.key x.val)) ?_
 exact Y.1) : q := Y ⟨x⟩
theorem Xaw (x : p) (Y : Bx p → q := by
 intro Y
 refine Xt ?_
 refine X1w ?_; intro K hK
 revert K hK
 exact Y.1) : q := Y ⟨x⟩
theorem Xax (x : p) (Y : Bx p → q := by
 intro Y
 refine Xa2 ?_
 refine X21 ?_
 exact Y.1) : q := Y ⟨x⟩
theorem Xay (x : p) (Y : Bx p → q := by
 intro Y
 refine xaa rfl _ (xay _ _ rfl _ _ _ rfl rfl HD1.out (by omega)) ?_
 exact Y.1) : q := Y ⟨x⟩
theorem Xaz (x : p) (Y : Bx p → q := by
 intro Y
 refine X10 ?_
 refine xaa rfl _ (xaw xcd _ _ rfl A n c m .i64 rfl rfl (by omega)) ?_
 exact Y.1) : q := Y ⟨x⟩
theorem Xb0 (x : p) (Y : Bx p → q := by
 intro Y
 refine xac cf226 rfl _ rfl ?_
 simp only [qk, ql, Act.eval, qa, qb, qc, qd, qe]
 exact Y.1) : q := Y ⟨x⟩
theorem Xb1 (x : p) (Y : Bx p → q := by
 intro Y
 refine X10 ?_
 refine xaa rfl _ (xco xcd _ _ rfl A n c m .i64 rfl rfl hmn) ?_
 exact Y.1) : q := Y ⟨x⟩
theorem Xb2 (x : p) (Y : Bx p → q := by
 intro Y
 have HSV : Hid (Value.slice A 1 c = .slice (some ad) 1 c) := hZ (by rw [hA])
 revert HSV
 exact Y.1) : q := Y ⟨x⟩
theorem Xb3 (x : p) (Y : Bx p → q := by
 intro Y
 have hD0 : ∀ ad, A = some ad → Old w ad.block ∧ ¬ D ad.block := fun ad e => ⟨hW.s.rd.lt (by simp [Wrt.cells]) e, hW.d (by simp) ad e⟩
 revert hD0
 exact Y.1) : q := Y ⟨x⟩
theorem Xb4 (x : p) (Y : Bx p → q := by
 intro Y
 have htx : Tx w x.val.A x.val.n x.val.c l := hW.tx 0 (by simp)
 revert htx
 exact Y.1) : q := Y ⟨x⟩
theorem Xb5 (x : p) (Y : Bx p → q := by
 intro Y
 have HX : ∀ (L : List (Nat × Nat × List Value)) (u : World), Loc w (Old w) L u → Hid (Rd u x.val.A (bvs l)) := fun L u hu => hZ (htx.rd.below hu.below)
 revert HX
 exact Y.1) : q := Y ⟨x⟩
theorem Xb6 (x : p) (Y : Bx p → q := by
 intro Y
 have CL : ∀ (L : List (Nat × Nat × List Value)) (u : World), Loc w (Old w) L u → Hid (Calls Tryz.prog 146 #[.pointer (some ⟨gs, 0, none⟩), .agg x.key.c.toArray, x.val.v] u (Took D u gs g σ fun y => ⟨xbu x.key l y, 1, l⟩)) := fun L u hu => hZ (xmg (HH.out.below hu.below) x.key x.val.A x.val.n x.val.c l (HX L u hu).out HTX.out.1 HTX.out.2.1 HTX.out.2.2.1 HTX.out.2.2.2 HRM.out)
 revert CL
 exact Y.1) : q := Y ⟨x⟩
theorem Xb7 (x : p) (Y : Bx p → q := by
 intro Y
 refine rB (Loc.P HL) [] [2, 7, 17] [0, 1, 2, 3, 4, 5, 6, 8, 9, 10, 11, 7, 12, 13, 14, 15, 16, 19, 20, 21, 22, 23, 17, 18, 24, 25] 0 ?_
 exact Y.1) : q := Y ⟨x⟩
theorem Xb8 (x : p) (Y : Bx p → q := by
 intro Y
 with_reducible refine (xd5 (HH.out.sw.below HL.below) _ Nd.z [] false G0.out).mono ?_
 exact Y.1) : q := Y ⟨x⟩
theorem Xb9 (x : p) (Y : Bx p → q := by
 intro Y
 have CL7 : Hid (Calls Tryz.prog 146 #[.pointer (some ⟨gs, 0, none⟩), .agg x.key.c.toArray, x.val.v] w.drew (Took D w.drew gs g σ fun y => ⟨xbu x.key l y, 1, l⟩)) := CL _ _ HL.drew
 have hS7 : Stp D w0 D w.drew := Stp.of_below HL.drew.below
 revert CL7 hS7
 exact Y.1) : q := Y ⟨x⟩
theorem Xba (x : p) (Y : Bx p → q := by
 intro Y
 refine rB (Loc.P HL) [] [9] [0, 1, 2, 3, 4, 5, 6, 7, 8, 9, 10, 11, 12, 13, 14] 0 ?_
 exact Y.1) : q := Y ⟨x⟩
theorem Xbb (x : p) (Y : Bx p → q := by
 intro Y
 refine xab rfl rfl HL (fun W hW => xbf xcd (.tmp 50) _ rfl ad 1 c 0 .i64 HSV.out rfl (by decide)) ?_
 exact Y.1) : q := Y ⟨x⟩
theorem Xbc (x : p) (Y : Bx p → q := by
 intro Y
 refine xab rfl rfl HL (fun W hW => xfm xg8 _ rfl _ rfl) ?_
 exact Y.1) : q := Y ⟨x⟩
theorem Xbd (x : p) (Y : Bx p → q := by
 intro Y
 refine xab rfl rfl HL (fun W hW => xbx ag24 _ rfl _ x.key.c rfl (HK2 _ _ hW).out (by omega) (D32.cl _)) ?_
 exact Y.1) : q := Y ⟨x⟩
theorem Xbe (x : p) (Y : Bx p → q := by
 intro Y
 refine xab rfl rfl HL (fun W hW => xbf xcd (.tmp 54) _ rfl ad 1 c 0 .i64 HSV.out rfl (by decide)) ?_
 exact Y.1) : q := Y ⟨x⟩
theorem Xbf (x : p) (Y : Bx p → q := by
 intro Y
 refine xab rfl rfl HL (fun W hW => xfm xg9 _ rfl _ rfl) ?_
 exact Y.1) : q := Y ⟨x⟩
theorem Xbg (x : p) (Y : Bx p → q := by
 intro Y
 refine xab rfl rfl HL (fun W hW => xgm sc25 _ rfl _ x.val.v rfl (HV2 _ _ hW).out) ?_
 exact Y.1) : q := Y ⟨x⟩
theorem Xbh (x : p) (Y : Bx p → q := by
 intro Y
 refine X8j ?_
 with_reducible refine (CL7.out).mono ?_
 exact Y.1) : q := Y ⟨x⟩
theorem Xbi (x : p) (Y : Bx p → q := by
 intro Y
 have G0 : Hid (Got σ zo nd v true) := hZ (.inl ⟨rfl, i, hzi, hi, hnd, hvi, hci⟩)
 revert G0
 exact Y.1) : q := Y ⟨x⟩
theorem Xbj (x : p) (Y : Bx p → q := by
 intro Y
 with_reducible refine (xd5 (HH.out.sw.below HL.below) _ nd v true G0.out).mono ?_
 exact Y.1) : q := Y ⟨x⟩
theorem Xbk (x : p) (Y : Bx p → q := by
 intro Y
 refine xab rfl rfl HL (fun W hW => xa3 (b := true) _ _ rfl _ _ rfl rfl k3) ?_
 exact Y.1) : q := Y ⟨x⟩
theorem Xbl (x : p) (Y : Bx p → q := by
 intro Y
 refine xab rfl rfl HL (fun W hW => xbf xcd (.tmp 27) _ rfl ad 1 c 0 .i64 HSV.out rfl (by decide)) ?_
 exact Y.1) : q := Y ⟨x⟩
theorem Xbm (x : p) (Y : Bx p → q := by
 intro Y
 refine xab rfl rfl HL (fun W hW => xbx ag24 _ rfl _ x.key.c rfl (HK _ _ hW).out (by omega) (D32.cl _)) ?_
 exact Y.1) : q := Y ⟨x⟩
theorem Xbn (x : p) (Y : Bx p → q := by
 intro Y
 with_reducible refine (xme (HH.out.sw.below HL.below) _ nd v true G0.out).mono ?_
 exact Y.1) : q := Y ⟨x⟩
theorem Xbo (x : p) (Y : Bx p → q := by
 intro Y
 refine rB (Loc.P HL) [] [2, 7, 17, 18] [0, 1, 2, 3, 4, 5, 6, 8, 9, 10, 11, 7, 12, 13, 14, 15, 16, 19, 20, 21, 22, 23, 17, 18, 24, 25] 0 ?_
 exact Y.1) : q := Y ⟨x⟩
theorem Xbp (x : p) (Y : Bx p → q := by
 intro Y
 refine xab rfl rfl HL (fun W hW => xfs ab23 _ _ rfl nd.key x.key rfl rfl true k12) ?_
 refine X3j ?_
 exact Y.1) : q := Y ⟨x⟩
theorem Xbq (x : p) (Y : Bx p → q := by
 intro Y
 refine xab rfl rfl HL (fun W hW => xbf xcd (.tmp 38) _ rfl ad 1 c 0 .i64 HSV.out rfl (by decide)) ?_
 exact Y.1) : q := Y ⟨x⟩
theorem Xbr (x : p) (Y : Bx p → q := by
 intro Y
 refine X5 ?_
 refine xab rfl rfl HL (fun W hW => xgm sc25 _ rfl _ x.val.v rfl (HV _ _ hW).out) ?_
 exact Y.1) : q := Y ⟨x⟩
theorem Xbs (x : p) (Y : Bx p → q := by
 intro Y
 refine xab rfl rfl HL (fun W hW => xbd bt _ rfl x.val.A x.val.n x.val.c rfl l (HX _ _ hW).out HTX.out.1) ?_
 exact Y.1) : q := Y ⟨x⟩
theorem Xbt (x : p) (Y : Bx p → q := by
 intro Y
 with_reducible refine (xnx (HH.out.sw.below HL.below) _ nd v true G0.out HVN.out).mono ?_
 exact Y.1) : q := Y ⟨x⟩
theorem Xbu (x : p) (Y : Bx p → q := by
 intro Y
 refine xab rfl rfl HL (fun W hW => xle Tryz.underlying9 _ _ rfl v l rfl rfl k24) ?_
 refine X3k ?_
 exact Y.1) : q := Y ⟨x⟩
theorem Xbv (x : p) (Y : Bx p → q := by
 intro Y
 refine xac cf224 rfl _ rfl ?_
 exact Y.1) : q := Y ⟨x⟩
theorem Xbw (x : p) (Y : Bx p → q := by
 intro Y
 refine xaa rfl _ (xa3 (b := false) _ _ rfl _ _ rfl rfl kn) ?_
 exact Y.1) : q := Y ⟨x⟩
theorem Xbx (x : p) (Y : Bx p → q := by
 intro Y
 refine xaa rfl _ (xei (b := true) _ _ rfl _ _ rfl rfl k3) ?_
 refine X21 ?_
 exact Y.1) : q := Y ⟨x⟩
theorem Xby (x : p) (Y : Bx p → q := by
 intro Y
 have HB2 := hZ ((HB.out.trans (HL.below.mono HB.out.size)).trans (hO.bel.mono (Nat.le_trans HB.out.size HL.fr.size)))
 have HFA : Hid (∀ q ∈ qs, ∀ ad, q.1.val.A = some ad → w0.heap.size ≤ ad.block) := hZ (fun q hq ad e => Nat.le_trans (Nat.le_trans HB.out.size HL.fr.size) (hO.fT q hq ad e))
 revert HB2 HFA
 exact Y.1) : q := Y ⟨x⟩
theorem Xbz (x : p) (Y : Bx p → q := by
 intro Y
 have HSQ : Hid (∀ k t, (k, t) ∈ qs.map entP ↔ ((k, some t) ∈ es.map pw ∨ (k ∉ xa2 es ∧ (k, t) ∈ told.ents))) := hZ (fun k t => (hO.spec k t).trans (xst hti y HRI.out k t))
 revert HSQ
 exact Y.1) : q := Y ⟨x⟩
theorem Xc0 (x : p) (Y : Bx p → q := by
 intro Y
 refine xaa rfl _ (xav Tryz.underlying55 _ rfl v8 qs.length rfl HQL.out.2) ?_
 refine X1e ?_
 exact Y.1) : q := Y ⟨x⟩
theorem Xc1 (x : p) (Y : Bx p → q := by
 intro Y
 have HRD : ∀ (L : List (Nat × Nat × List Value)) (W : World), Loc w2 (Old w2) L W → Hid (Rd W (some (ad.add (i * 33))) qs[i].1.cells) := fun L W hW => hZ (hrd0.below hW.below)
 revert HRD
 exact Y.1) : q := Y ⟨x⟩
theorem Xc2 (x : p) (Y : Bx p → q := by
 intro Y
 refine Xs ?_
 refine xaa rfl _ (xbf sl55 (.tmp 46) _ rfl ad v8.n v8.c i .i64 HSV.out rfl hin) ?_
 exact Y.1) : q := Y ⟨x⟩
theorem Xc3 (x : p) (Y : Bx p → q := by
 intro Y
 refine Xs ?_
 refine X9n ?_
 refine X1e ?_
 exact Y.1) : q := Y ⟨x⟩
theorem Xc4 (x : p) (Y : Bx p → q := by
 intro Y
 have hshare : ∀ p ∈ qs.map entP, ∀ q ∈ qs.map entP, ∀ e, e < d → tb p.1.l e = tb q.1.l e := fun p hp q hq e he => HAL.out _ (hkin p hp) _ (hkin q hq) e he
 revert hshare
 exact Y.1) : q := Y ⟨x⟩
theorem Xc5 (x : p) (Y : Bx p → q := by
 intro Y
 refine xaa rfl _ (xav Tryz.underlying71 _ rfl ⟨some ⟨gq, 0, none⟩, 2, 2⟩ 2 rfl rfl) ?_
 exact Y.1) : q := Y ⟨x⟩
theorem Xc6 (x : p) (Y : Bx p → q := by
 intro Y
 have HP3 := hZ (HP2.out.below HL.below)
 have HS3 := hZ (HS2.out.trans (Stp.of_below HL.below))
 revert HP3 HS3
 exact Y.1) : q := Y ⟨x⟩
theorem Xc7 (x : p) (Y : Bx p → q := by
 intro Y
 have HGQ : Hid (¬ D2 gq) := hZ (fun hk => (HL.own _ (.head _)).1 (HP2.out.sb.lt _ hk))
 revert HGQ
 exact Y.1) : q := Y ⟨x⟩
theorem Xc8 (x : p) (Y : Bx p → q := by
 intro Y
 have HL := Loc.of1 (Fr.refl (· = gq) w) HQ.out
 revert HL
 exact Y.1) : q := Y ⟨x⟩
theorem Xc9 (x : p) (Y : Bx p → q := by
 intro Y
 refine Xs ?_
 refine xaa rfl _ (xbm (b := true) _ _ rfl _ _ rfl rfl rfl) ?_
 refine X21 ?_
 exact Y.1) : q := Y ⟨x⟩
theorem Xca (x : p) (Y : Bx p → q := by
 intro Y
 refine xaa rfl _ (xbc sl71 _ _ rfl gq 2 2 0 .i64 rfl rfl (by decide)) ?_
 exact Y.1) : q := Y ⟨x⟩
theorem Xcb (x : p) (Y : Bx p → q := by
 intro Y
 refine xaa rfl _ (xah sc3 HL _ rfl gq (0 * 1) rfl 3 _ (.int .i64 z1) (.head _) rfl) ?_
 exact Y.1) : q := Y ⟨x⟩
theorem Xcc (x : p) (Y : Bx p → q := by
 intro Y
 refine X11 ?_
 refine xaa rfl _ (xa4 (b := false) _ _ rfl _ _ rfl rfl kz1) ?_
 exact Y.1) : q := Y ⟨x⟩
theorem Xcd (x : p) (Y : Bx p → q := by
 intro Y
 refine xaa rfl _ (xbc sl71 _ _ rfl gq 2 2 1 .i64 rfl rfl (by decide)) ?_
 exact Y.1) : q := Y ⟨x⟩
theorem Xce (x : p) (Y : Bx p → q := by
 intro Y
 refine xaa rfl _ (xah sc3 HL _ rfl gq (1 * 1) rfl 3 _ (.int .i64 z2) (.head _) rfl) ?_
 exact Y.1) : q := Y ⟨x⟩
theorem Xcf (x : p) (Y : Bx p → q := by
 intro Y
 refine X11 ?_
 refine xaa rfl _ (xa4 (b := false) _ _ rfl _ _ rfl rfl kz2) ?_
 exact Y.1) : q := Y ⟨x⟩
theorem Xcg (x : p) (Y : Bx p → q := by
 intro Y
 refine xaa rfl _ (xbm (b := false) _ _ rfl _ _ rfl rfl rfl) ?_
 exact Y.1) : q := Y ⟨x⟩
theorem Xch (x : p) (Y : Bx p → q := by
 intro Y
 refine X11 ?_
 refine xaa rfl _ (xa4 (b := true) _ _ rfl _ _ rfl rfl kz2) ?_
 exact Y.1) : q := Y ⟨x⟩
theorem Xci (x : p) (Y : Bx p → q := by
 intro Y
 refine X11 ?_
 refine xaa rfl _ (xa4 (b := true) _ _ rfl _ _ rfl rfl kz1) ?_
 exact Y.1) : q := Y ⟨x⟩
theorem Xcj (x : p) (Y : Bx p → q := by
 intro Y
 refine xaa rfl _ (xa4 (b := false) _ _ rfl _ _ rfl rfl rfl) ?_
 exact Y.1) : q := Y ⟨x⟩
theorem Xck (x : p) (Y : Bx p → q := by
 intro Y
 refine Xcj ?_
 refine X21 ?_
 exact Y.1) : q := Y ⟨x⟩
theorem Xcl (x : p) (Y : Bx p → q := by
 intro Y
 refine xaa rfl _ (xbm _ _ rfl _ _ rfl rfl k6) ?_
 exact Y.1) : q := Y ⟨x⟩
theorem Xcm (x : p) (Y : Bx p → q := by
 intro Y
 refine xad rfl _ (xah sc25 HL _ rfl _ _ rfl _ _ _ (.head _) (Wrt.g_val _)) ?_
 refine X5 ?_
 refine xad rfl _ (xav Tryz.underlying25 _ rfl x.val lx.length rfl HVN.out) ?_
 exact Y.1) : q := Y ⟨x⟩
theorem Xcn (x : p) (Y : Bx p → q := by
 intro Y
 refine X11 ?_
 refine Xck ?_
 exact Y.1) : q := Y ⟨x⟩
theorem Xco (x : p) (Y : Bx p → q := by
 intro Y
 refine X1y ?_
 with_reducible refine (CW.out).mono ?_
 exact Y.1) : q := Y ⟨x⟩
theorem Xcp (x : p) (Y : Bx p → q := by
 intro Y
 refine X11 ?_
 refine xaa rfl _ (xa4 (b := true) _ _ rfl _ _ rfl rfl rfl) ?_
 exact Y.1) : q := Y ⟨x⟩
theorem Xcq (x : p) (Y : Bx p → q := by
 intro Y
 refine xac cf95 rfl _ rfl ?_
 simp only [qk, ql, Act.eval, qa, qb, qc, qd, qe]
 exact Y.1) : q := Y ⟨x⟩
theorem Xcr (x : p) (Y : Bx p → q := by
 intro Y
 refine xac cf40 rfl _ rfl ?_
 simp only [qk, ql, Act.eval, qa, qb, qc, qd, qe]
 exact Y.1) : q := Y ⟨x⟩
theorem Xcs (x : p) (Y : Bx p → q := by
 intro Y
 refine xaa rfl _ (xaf xql _ rfl _ rfl) ?_
 exact Y.1) : q := Y ⟨x⟩
theorem Xct (x : p) (Y : Bx p → q := by
 intro Y
 refine xaa rfl _ (xaf xl4 _ rfl _ rfl) ?_
 exact Y.1) : q := Y ⟨x⟩
theorem Xcu (x : p) (Y : Bx p → q := by
 intro Y
 refine xaa rfl _ (xdb xns HL _ rfl _ rfl _ (by with_reducible assumption)) ?_
 exact Y.1) : q := Y ⟨x⟩
theorem Xcv (x : p) (Y : Bx p → q := by
 intro Y
 refine xac cf82 rfl _ rfl ?_
 simp only [qk, ql, Act.eval, qa, qb, qc, qd, qe]
 exact Y.1) : q := Y ⟨x⟩
theorem Xcw (x : p) (Y : Bx p → q := by
 intro Y
 with_reducible refine (xsx (HH.out.below HL.below)).mono ?_
 exact Y.1) : q := Y ⟨x⟩
theorem Xcx (x : p) (Y : Bx p → q := by
 intro Y
 refine Xa ?_
 refine bodyPost_ret (xby rfl ag23 _ _ g4 23 _ rfl (HL.blk (.head _)) (D32.cl _)) rfl ?_
 exact Y.1) : q := Y ⟨x⟩
theorem Xcy (x : p) (Y : Bx p → q := by
 intro Y
 refine X1y ?_
 with_reducible refine (dc_keyed (HH.out.below HL.below) A c key (HL.rdO HR.out) hc).mono ?_
 exact Y.1) : q := Y ⟨x⟩
theorem Xcz (x : p) (Y : Bx p → q := by
 intro Y
 refine xab rfl rfl HL (fun W hW => xaf xl4 _ rfl _ rfl) ?_
 exact Y.1) : q := Y ⟨x⟩
theorem Xd0 (x : p) (Y : Bx p → q := by
 intro Y
 refine xab rfl rfl HL (fun W hW => xax xns hW _ rfl _ rfl _ hgd hc1) ?_
 exact Y.1) : q := Y ⟨x⟩
theorem Xd1 (x : p) (Y : Bx p → q := by
 intro Y
 refine xab rfl rfl HL (fun W hW => xaf xql _ rfl _ rfl) ?_
 exact Y.1) : q := Y ⟨x⟩
theorem Xd2 (x : p) (Y : Bx p → q := by
 intro Y
 refine xab rfl rfl HL (fun W hW => xax sc3 hW _ rfl _ rfl _ hgd hc2) ?_
 exact Y.1) : q := Y ⟨x⟩
theorem Xd3 (x : p) (Y : Bx p → q := by
 intro Y
 refine X5 ?_
 refine xa1 sc3 rfl _ _ rfl HL 0 _ _ _ _ _ _ rfl rfl rfl rfl (by simp) (rfl) ?_
 exact Y.1) : q := Y ⟨x⟩
theorem Xd4 (x : p) (Y : Bx p → q := by
 intro Y
 refine xaa rfl _ (xbm _ _ rfl _ _ rfl rfl k5) ?_
 exact Y.1) : q := Y ⟨x⟩
theorem Xd5 (x : p) (Y : Bx p → q := by
 intro Y
 refine Xt ?_
 refine xbn ag80 rfl _ _ rfl HL 0 _ _ _ _ rfl rfl rfl (Rw.len _) (Rw.len _) (Rw.one _) ?_
 exact Y.1) : q := Y ⟨x⟩
theorem Xd6 (x : p) (Y : Bx p → q := by
 intro Y
 refine xaa rfl _ (xaf fa80_0 _ rfl _ rfl) ?_
 exact Y.1) : q := Y ⟨x⟩
theorem Xd7 (x : p) (Y : Bx p → q := by
 intro Y
 refine xaa rfl _ (xah sc25 HL _ rfl _ _ rfl _ _ _ (.head _) (Rw.g_key _)) ?_
 exact Y.1) : q := Y ⟨x⟩
theorem Xd8 (x : p) (Y : Bx p → q := by
 intro Y
 refine xaa rfl _ (xaf fa80_1 _ rfl _ rfl) ?_
 exact Y.1) : q := Y ⟨x⟩
theorem Xd9 (x : p) (Y : Bx p → q := by
 intro Y
 refine xaa rfl _ (xaf fa80_2 _ rfl _ rfl) ?_
 exact Y.1) : q := Y ⟨x⟩
theorem Xda (x : p) (Y : Bx p → q := by
 intro Y
 refine xaa rfl _ (xa3 (b := true) _ _ rfl _ _ rfl rfl rfl) ?_
 exact Y.1) : q := Y ⟨x⟩
theorem Xdb (x : p) (Y : Bx p → q := by
 intro Y
 refine xaa rfl _ (xbm (b := false) _ _ rfl _ _ rfl rfl k1) ?_
 refine X26 ?_
 exact Y.1) : q := Y ⟨x⟩
theorem Xdc (x : p) (Y : Bx p → q := by
 intro Y
 with_reducible refine (vs_none (HH.out.below HL.below)).mono ?_
 exact Y.1) : q := Y ⟨x⟩
theorem Xdd (x : p) (Y : Bx p → q := by
 intro Y
 refine X13 ?_
 refine xaa rfl _ (xaf xqs _ rfl _ rfl) ?_
 exact Y.1) : q := Y ⟨x⟩
theorem Xde (x : p) (Y : Bx p → q := by
 intro Y
 refine xaa rfl _ (xax sc257 HL _ rfl _ rfl _ hgv hv1) ?_
 exact Y.1) : q := Y ⟨x⟩
theorem Xdf (x : p) (Y : Bx p → q := by
 intro Y
 refine xaa rfl _ (xaf fa259_0 _ rfl _ rfl) ?_
 exact Y.1) : q := Y ⟨x⟩
theorem Xdg (x : p) (Y : Bx p → q := by
 intro Y
 refine xaa rfl _ (xax xns HL _ rfl _ rfl _ hgv hv0) ?_
 exact Y.1) : q := Y ⟨x⟩
theorem Xdh (x : p) (Y : Bx p → q := by
 intro Y
 refine X1y ?_
 with_reducible refine ((CR _ HL.below).out).mono ?_
 exact Y.1) : q := Y ⟨x⟩
theorem Xdi (x : p) (Y : Bx p → q := by
 intro Y
 refine X1x ?_; intro K hK
 refine xac cf67 rfl _ rfl ?_
 simp only [qk, ql, Act.eval, qa, qb, qc, qd, qe]
 revert K hK
 exact Y.1) : q := Y ⟨x⟩
theorem Xdj (x : p) (Y : Bx p → q := by
 intro Y
 refine xaa rfl _ (xaf xl1 _ rfl _ rfl) ?_
 exact Y.1) : q := Y ⟨x⟩
theorem Xdk (x : p) (Y : Bx p → q := by
 intro Y
 refine xaa rfl _ (xaf xg7 _ rfl _ rfl) ?_
 exact Y.1) : q := Y ⟨x⟩
theorem Xdl (x : p) (Y : Bx p → q := by
 intro Y
 with_reducible refine (xhk HH.out).mono ?_
 exact Y.1) : q := Y ⟨x⟩
theorem Xdm (x : p) (Y : Bx p → q := by
 intro Y
 refine xaa rfl _ (xah sc25 HL _ rfl _ _ rfl _ _ _ (.head _) rfl) ?_
 exact Y.1) : q := Y ⟨x⟩
theorem Xdn (x : p) (Y : Bx p → q := by
 intro Y
 refine X3d ?_
 refine xab rfl rfl HL (fun W hW => xaf xg7 _ rfl _ rfl) ?_
 exact Y.1) : q := Y ⟨x⟩
theorem Xdo (x : p) (Y : Bx p → q := by
 intro Y
 refine xab rfl rfl HL (fun W hW => xaf xl1 _ rfl _ rfl) ?_
 exact Y.1) : q := Y ⟨x⟩
theorem Xdp (x : p) (Y : Bx p → q := by
 intro Y
 refine xbg (xah sc25 HX _ rfl _ _ rfl _ _ _ (.head _) rfl) ?_
 exact Y.1) : q := Y ⟨x⟩
theorem Xdq (x : p) (Y : Bx p → q := by
 intro Y
 refine xbg (xah sc3 HX _ rfl _ _ rfl _ _ _ (.head _) rfl) ?_
 exact Y.1) : q := Y ⟨x⟩
theorem Xdr (x : p) (Y : Bx p → q := by
 intro Y
 refine X5 ?_
 refine xdj [13, 16] (by kernel_rfl) ?_
 exact Y.1) : q := Y ⟨x⟩
theorem Xds (x : p) (Y : Bx p → q := by
 intro Y
 refine xbg (xge _ _ rfl s n rfl rfl m HM.out) ?_
 exact Y.1) : q := Y ⟨x⟩
theorem Xdt (x : p) (Y : Bx p → q := by
 intro Y
 refine xca [16, 17, 18, 19] 0 (by kernel_rfl) ?_
 refine X9v ?_; intro K hK
 revert K hK
 exact Y.1) : q := Y ⟨x⟩
theorem Xdu (x : p) (Y : Bx p → q := by
 intro Y
 refine xh0 sc25 _ _ rfl HX 0 gk 0 147 _ (dskC ⟨b.A, n, b.c⟩ s) (⟨b.A, n, b.c⟩ : Sv).v rfl rfl rfl rfl (show 0 < 3 by decide) rfl ?_
 exact Y.1) : q := Y ⟨x⟩
theorem Xdv (x : p) (Y : Bx p → q := by
 intro Y
 have HL := HX.drop [] (List.nil_sublist _)
 revert HL
 exact Y.1) : q := Y ⟨x⟩
theorem Xdw (x : p) (Y : Bx p → q := by
 intro Y
 refine X3x ?_; intro K hK
 refine X3y ?_; clear hK K; intro K hK
 revert K hK
 exact Y.1) : q := Y ⟨x⟩
theorem Xdx (x : p) (Y : Bx p → q := by
 intro Y
 refine Xdw ?_; intro K hK
 refine xbg (xaf xl1 _ rfl _ rfl) ?_
 refine X3x ?_; clear hK K; intro K hK
 refine xh0 sc3 _ _ rfl HX 0 gk 1 147 _ (dskC ⟨b.A, n, b.c⟩ m) (.int .i64 (m : Int)) rfl rfl rfl rfl (show 1 < 3 by decide) rfl ?_
 revert K hK
 exact Y.1) : q := Y ⟨x⟩
theorem Xdy (x : p) (Y : Bx p → q := by
 intro Y
 refine Xdv ?_; intro HL
 refine Xdx ?_; intro K hK
 revert HL K hK
 exact Y.1) : q := Y ⟨x⟩
theorem Xdz (x : p) (Y : Bx p → q := by
 intro Y
 refine Xdv ?_; intro HL
 refine X3w ?_
 revert HL
 exact Y.1) : q := Y ⟨x⟩
theorem Xe0 (x : p) (Y : Bx p → q := by
 intro Y
 refine Xdz ?_; intro HL
 refine X9 ?_
 revert HL
 exact Y.1) : q := Y ⟨x⟩
theorem Xe1 (x : p) (Y : Bx p → q := by
 intro Y
 have hf : Fr (· = gk) w0 w := ⟨HX.fr.os, HX.fr.tape, HX.fr.output, HX.fr.size, fun k hk hn => HX.fr.block k hk (fun n => n ⟨hk, hn⟩)⟩
 revert hf
 exact Y.1) : q := Y ⟨x⟩
theorem Xe2 (x : p) (Y : Bx p → q := by
 intro Y
 refine xca [13, 17, 18, 19] 0 (by kernel_rfl) ?_
 refine X9v ?_; intro K hK
 revert K hK
 exact Y.1) : q := Y ⟨x⟩
theorem Xe3 (x : p) (Y : Bx p → q := by
 intro Y
 refine X5 ?_
 refine xaa rfl _ (xah sc3 HL _ rfl _ _ rfl _ _ _ (.head _) rfl) ?_
 exact Y.1) : q := Y ⟨x⟩
theorem Xe4 (x : p) (Y : Bx p → q := by
 intro Y
 refine xh0 sc25 _ _ rfl HX 0 gk 0 147 _ (dskC ⟨b.A, s + n, b.c⟩ (s + n)) (⟨b.A, s + n, b.c⟩ : Sv).v rfl rfl rfl rfl (show 0 < 3 by decide) rfl ?_
 exact Y.1) : q := Y ⟨x⟩
theorem Xe5 (x : p) (Y : Bx p → q := by
 intro Y
 refine X11 ?_
 refine xaa rfl _ (xav Tryz.underlying73 _ rfl ⟨A, n, c⟩ n rfl rfl) ?_
 exact Y.1) : q := Y ⟨x⟩
theorem Xe6 (x : p) (Y : Bx p → q := by
 intro Y
 refine xaa rfl _ (xah sc25 HL _ rfl _ _ rfl _ _ _ (.head _) (Rw.g_val _)) ?_
 refine X1g ?_
 exact Y.1) : q := Y ⟨x⟩
theorem Xe7 (x : p) (Y : Bx p → q := by
 intro Y
 refine xaa rfl _ (xah sc4 HL _ rfl _ _ rfl _ _ _ (.head _) (Rw.g_gone _)) ?_
 refine X21 ?_
 exact Y.1) : q := Y ⟨x⟩
theorem Xe8 (x : p) (Y : Bx p → q := by
 intro Y
 refine X1y ?_
 with_reducible refine (HJ.out).mono ?_
 exact Y.1) : q := Y ⟨x⟩
theorem Xe9 (x : p) (Y : Bx p → q := by
 intro Y
 refine xaa rfl _ (xgd (.func 177) [] [.tmp 2, .tmp 3] rfl [] [.pointer (some ⟨g2, 0, none⟩), .pointer (some ⟨g3, 0, none⟩)] rfl rfl) ?_
 exact Y.1) : q := Y ⟨x⟩
theorem Xea (x : p) (Y : Bx p → q := by
 intro Y
 refine xlk (xs := []) rfl [.pointer (some ⟨g2, 0, none⟩), .pointer (some ⟨g3, 0, none⟩)] rfl [] rfl ?_
 exact Y.1) : q := Y ⟨x⟩
theorem Xeb (x : p) (Y : Bx p → q := by
 intro Y
 refine xaa rfl _ (xav Tryz.underlying25 _ rfl ⟨A, n, c⟩ n rfl rfl) ?_
 exact Y.1) : q := Y ⟨x⟩
theorem Xec (x : p) (Y : Bx p → q := by
 intro Y
 refine xac cf52 rfl _ rfl ?_
 simp only [qk, ql, Act.eval, qa, qb, qc, qd, qe]
 exact Y.1) : q := Y ⟨x⟩
theorem Xed (x : p) (Y : Bx p → q := by
 intro Y
 have HBK := fun (L : List (Nat × Nat × List Value)) (u : World) (h : Loc w1 _ L u) => H1.back h
 revert HBK
 exact Y.1) : q := Y ⟨x⟩
theorem Xee (x : p) (Y : Bx p → q := by
 intro Y
 refine Xed ?_; intro HBK
 have HOD := fun (k : Nat) (hk : k < w0.heap.size) => H1.oldRest k hk
 revert HBK HOD
 exact Y.1) : q := Y ⟨x⟩
theorem Xef (x : p) (Y : Bx p → q := by
 intro Y
 refine xac cf59 rfl _ rfl ?_
 simp only [qk, ql, Act.eval, qa, qb, qc, qd, qe]
 exact Y.1) : q := Y ⟨x⟩
theorem Xeg (x : p) (Y : Bx p → q := by
 intro Y
 refine X1x ?_; intro K hK
 refine Xef ?_
 revert K hK
 exact Y.1) : q := Y ⟨x⟩
theorem Xeh (x : p) (Y : Bx p → q := by
 intro Y
 with_reducible refine (xnk (i := 0) HL rfl hR1).mono ?_
 exact Y.1) : q := Y ⟨x⟩
theorem Xei (x : p) (Y : Bx p → q := by
 intro Y
 refine leaves_cons (by simp) (xj9 cf177 [.pointer (some ⟨g2, 0, none⟩), .pointer (some ⟨g3, 0, none⟩)] []) ?_
 exact Y.1) : q := Y ⟨x⟩
theorem Xej (x : p) (Y : Bx p → q := by
 intro Y
 refine (xs2 g2 g3 _ _ _ rfl (HL.blk (.tail _ (.tail _ (.head _)))) (HL.blk (.tail _ (.head _)))).mono ?_
 exact Y.1) : q := Y ⟨x⟩
theorem Xek (x : p) (Y : Bx p → q := by
 intro Y
 refine xaa rfl _ (xf6 (b := true) _ rfl false rfl rfl) ?_
 exact Y.1) : q := Y ⟨x⟩
theorem Xel (x : p) (Y : Bx p → q := by
 intro Y
 refine X26 ?_
 refine xad rfl _ (xcq (b := true) _ _ rfl _ _ rfl rfl k5) ?_
 exact Y.1) : q := Y ⟨x⟩
theorem Xem (x : p) (Y : Bx p → q := by
 intro Y
 refine X4z ?_; intro K hK
 refine xac cf179 rfl _ rfl ?_
 refine X1y ?_
 with_reducible refine (must_yes _).mono ?_
 revert K hK
 exact Y.1) : q := Y ⟨x⟩
theorem Xen (x : p) (Y : Bx p → q := by
 intro Y
 refine xac cf53 rfl _ rfl ?_
 simp only [qk, ql, Act.eval, qa, qb, qc, qd, qe]
 exact Y.1) : q := Y ⟨x⟩
theorem Xeo (x : p) (Y : Bx p → q := by
 intro Y
 refine xaa rfl _ (xaf fa213_1 _ rfl _ rfl) ?_
 exact Y.1) : q := Y ⟨x⟩
theorem Xep (x : p) (Y : Bx p → q := by
 intro Y
 refine xa1 sc25 rfl _ _ rfl HL 2 g2 1 213 _ (⟨Sv.nil, s1, Sv.nil, 0⟩ : Rcd).cells s1.v rfl rfl rfl rfl (by simp) rfl ?_
 exact Y.1) : q := Y ⟨x⟩
theorem Xeq (x : p) (Y : Bx p → q := by
 intro Y
 refine Xen ?_
 with_reducible refine (xka (i := 0) HL rfl hR HLB.out 32 HK32.out).mono ?_
 exact Y.1) : q := Y ⟨x⟩
theorem Xer (x : p) (Y : Bx p → q := by
 intro Y
 refine X11 ?_
 refine xaa rfl _ (xcq (b := true) _ _ rfl _ _ rfl rfl (by decide)) ?_
 exact Y.1) : q := Y ⟨x⟩
theorem Xes (x : p) (Y : Bx p → q := by
 intro Y
 refine xad rfl _ (xa3 (b := true) _ _ rfl _ _ rfl rfl (by decide)) ?_
 simp only [Act.put, qf, qg, qh]
 exact Y.1) : q := Y ⟨x⟩
theorem Xet (x : p) (Y : Bx p → q := by
 intro Y
 refine Xt ?_
 refine xbn xjz rfl _ _ rfl HL 0 _ _ _ _ rfl rfl rfl (Rcd.len _) (Rcd.len _) (Rcd.one _) ?_
 exact Y.1) : q := Y ⟨x⟩
theorem Xeu (x : p) (Y : Bx p → q := by
 intro Y
 refine xac cf29 rfl _ rfl ?_
 simp only [qk, ql, Act.eval, qa, qb, qc, qd, qe]
 exact Y.1) : q := Y ⟨x⟩
theorem Xev (x : p) (Y : Bx p → q := by
 intro Y
 refine xaa rfl _ (xb5 ag23 HL _ rfl _ rfl _ _ (.head _) (D32.cl _)) ?_
 exact Y.1) : q := Y ⟨x⟩
theorem Xew (x : p) (Y : Bx p → q := by
 intro Y
 refine xaa rfl _ (xco sl25 _ _ rfl A n c (dskB h).length .i64 rfl rfl HIL.out) ?_
 exact Y.1) : q := Y ⟨x⟩
theorem Xex (x : p) (Y : Bx p → q := by
 intro Y
 refine xac cf71 rfl _ rfl ?_
 exact Y.1) : q := Y ⟨x⟩
theorem Xey (x : p) (Y : Bx p → q := by
 intro Y
 refine xaa rfl _ (xaf fa151_2 _ rfl _ rfl) ?_
 exact Y.1) : q := Y ⟨x⟩
theorem Xez (x : p) (Y : Bx p → q := by
 intro Y
 with_reducible refine (xrd (HH.out.below HL.below)).mono ?_
 exact Y.1) : q := Y ⟨x⟩
theorem Xf0 (x : p) (Y : Bx p → q := by
 intro Y
 refine X13 ?_
 refine xaa rfl _ (xaf xqk _ rfl _ rfl) ?_
 simp only [Act.put, qf, qg, qh]
 exact Y.1) : q := Y ⟨x⟩
theorem Xf1 (x : p) (Y : Bx p → q := by
 intro Y
 refine xaa rfl _ (xax sc85 HL _ rfl _ rfl _ hgj hc1) ?_
 exact Y.1) : q := Y ⟨x⟩
theorem Xf2 (x : p) (Y : Bx p → q := by
 intro Y
 have HJ1 : Hid (Blk w1 gj 151 (jrC gk gd n)) := hZ (HH.out.jb.fr HS1.out.fr HH.out.sj)
 have hgj1 : Old w1 gj := HJ1.out.lt
 revert HJ1 hgj1
 exact Y.1) : q := Y ⟨x⟩
theorem Xf3 (x : p) (Y : Bx p → q := by
 intro Y
 refine xaa rfl _ (xax sc85 HL _ rfl _ rfl _ hgj1 hc11) ?_
 exact Y.1) : q := Y ⟨x⟩
theorem Xf4 (x : p) (Y : Bx p → q := by
 intro Y
 refine xlk (n := 73) (xs := [.tmp 27, .const (.string ⟨#[98, 101, 102, 111, 114, 101]⟩)]) rfl [] rfl [.pointer (some ⟨gd, 0, none⟩), .string ⟨#[98, 101, 102, 111, 114, 101]⟩] rfl ?_
 exact Y.1) : q := Y ⟨x⟩
theorem Xf5 (x : p) (Y : Bx p → q := by
 intro Y
 have HF1 : Hid (RawF (fun k => S1 k) A rs) := hZ (HF.out.step HW.out (fun k hk => (HS1.out.new k hk).imp (fun h1 => .inr (.inl h1)) id))
 revert HF1
 exact Y.1) : q := Y ⟨x⟩
theorem Xf6 (x : p) (Y : Bx p → q := by
 intro Y
 have HW1 : Hid (RawT S1 w1 A m c rs) := hZ (RawF.raw (HW.out.frF HS1.out.fr (HF.out.less (fun k hk => .inr (.inl hk)))) HF1.out)
 revert HW1
 exact Y.1) : q := Y ⟨x⟩
theorem Xf7 (x : p) (Y : Bx p → q := by
 intro Y
 refine leaves_cons (by simp) (xj9 cf73 [] [.pointer (some ⟨gd, 0, none⟩), .string ⟨#[98, 101, 102, 111, 114, 101]⟩]) ?_
 exact Y.1) : q := Y ⟨x⟩
theorem Xf8 (x : p) (Y : Bx p → q := by
 intro Y
 refine xks bt _ _ rfl .i64 .i64 32 32 rfl rfl (by omega) (by omega) ?_
 exact Y.1) : q := Y ⟨x⟩
theorem Xf9 (x : p) (Y : Bx p → q := by
 intro Y
 have hbw : Below w1.heap.size w1 ((w1.drew.alloc (.cells (bvs (List.replicate 32 0)).toArray 5)).alloc (.cells (bvs (List.replicate 32 0)).toArray 5)) := ((Below.refl _ w1).drew).trans h2.2.2.2.2
 revert hbw
 exact Y.1) : q := Y ⟨x⟩
theorem Xfa (x : p) (Y : Bx p → q := by
 intro Y
 with_reducible refine (xlz _ none 0 0 [] (Rd.nil _ _) rfl (by omega) (by omega) (by omega)).mono ?_
 exact Y.1) : q := Y ⟨x⟩
theorem Xfb (x : p) (Y : Bx p → q := by
 intro Y
 refine X5p ?_
 with_reducible refine (xpf _ ky (tagV [])).mono ?_
 exact Y.1) : q := Y ⟨x⟩
theorem Xfc (x : p) (Y : Bx p → q := by
 intro Y
 refine xac cf19 rfl _ rfl ?_
 simp only [qk, ql, Act.eval, qa, qb, qc, qd, qe]
 exact Y.1) : q := Y ⟨x⟩
theorem Xfd (x : p) (Y : Bx p → q := by
 intro Y
 refine X18 ?_
 refine xaa rfl _ (xav Tryz.underlying64 _ rfl ⟨A, n, c⟩ n rfl rfl) ?_
 exact Y.1) : q := Y ⟨x⟩
theorem Xfe (x : p) (Y : Bx p → q := by
 intro Y
 refine xab rfl rfl HL (fun W hW => xbf sl64 (.tmp 58) _ rfl ad n c i .i64 HSV.out rfl hlt.1) ?_
 exact Y.1) : q := Y ⟨x⟩
theorem Xff (x : p) (Y : Bx p → q := by
 intro Y
 refine xab rfl rfl HL (fun W hW => xbf sl64 (.tmp 62) _ rfl ad n c i .i64 HSV.out rfl hlt.1) ?_
 exact Y.1) : q := Y ⟨x⟩
theorem Xfg (x : p) (Y : Bx p → q := by
 intro Y
 refine X5 ?_
 refine xab rfl rfl HL (fun W hW => xav Tryz.underlying73 _ rfl x.1 x.1.n rfl rfl) ?_
 exact Y.1) : q := Y ⟨x⟩
theorem Xfh (x : p) (Y : Bx p → q := by
 intro Y
 refine X5 ?_
 refine xab rfl rfl HL (fun W hW => xge _ _ rfl x.1.n 8 rfl rfl m HM.out) ?_
 exact Y.1) : q := Y ⟨x⟩
theorem Xfi (x : p) (Y : Bx p → q := by
 intro Y
 refine xab rfl rfl HL (fun W hW => xaw sl73 _ _ rfl x.1.A x.1.n x.1.c m .i64 rfl rfl HMC.out) ?_
 exact Y.1) : q := Y ⟨x⟩
theorem Xfj (x : p) (Y : Bx p → q := by
 intro Y
 refine xac cf22 rfl _ rfl ?_
 simp only [qk, ql, Act.eval, qa, qb, qc, qd, qe]
 exact Y.1) : q := Y ⟨x⟩
theorem Xfk (x : p) (Y : Bx p → q := by
 intro Y
 with_reducible refine (xm4 sy 10 _ (by decide) (by decide) HSY.out).mono ?_
 exact Y.1) : q := Y ⟨x⟩
theorem Xfl (x : p) (Y : Bx p → q := by
 intro Y
 refine xaa rfl _ (xa3 (b := true) _ _ rfl _ _ rfl rfl k16) ?_
 refine X21 ?_
 exact Y.1) : q := Y ⟨x⟩
theorem Xfm (x : p) (Y : Bx p → q := by
 intro Y
 refine xaa rfl _ (xa3 (b := false) _ _ rfl _ _ rfl rfl k16) ?_
 refine X21 ?_
 exact Y.1) : q := Y ⟨x⟩
theorem Xfn (x : p) (Y : Bx p → q := by
 intro Y
 refine xab rfl rfl HL (fun W hW => xav Tryz.underlying71 _ rfl se (N + 1) rfl HSE.out.2) ?_
 exact Y.1) : q := Y ⟨x⟩
theorem Xfo (x : p) (Y : Bx p → q := by
 intro Y
 refine xab rfl rfl HL (fun W hW => xbp sc3 _ rfl ae (safe * 1) _ (.int .i64 (endH hs safe : Int)) rfl (CE _ _ _ hW).out HESG.out) ?_
 exact Y.1) : q := Y ⟨x⟩
theorem Xfp (x : p) (Y : Bx p → q := by
 intro Y
 refine rB (Loc.P HL) [] [] [0, 1, 2, 3, 4, 5, 6, 7, 8, 9, 10, 11, 12, 13, 14, 15, 16] 0 ?_
 refine X3u ?_; intro HL
 revert HL
 exact Y.1) : q := Y ⟨x⟩
theorem Xfq (x : p) (Y : Bx p → q := by
 intro Y
 refine xad rfl _ (xa4 (b := false) _ _ rfl _ _ rfl rfl rfl) ?_
 refine X2a ?_
 exact Y.1) : q := Y ⟨x⟩
end Go.Proofs.YtkjjdgnkelchfaaGreat
