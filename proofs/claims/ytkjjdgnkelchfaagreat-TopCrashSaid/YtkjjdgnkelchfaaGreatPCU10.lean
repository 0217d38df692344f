import Derived.Test.YtkjjdgnkelchfaaGreatPCU9
set_option linter.unusedSimpArgs false
set_option linter.unusedVariables false
set_option maxRecDepth 100000
set_option maxHeartbeats 16000000
namespace Go.Proofs.YtkjjdgnkelchfaaGreat
open Go Go.RowKit
section
variable {D : Nat → Prop} {w w' : World} {gs g : Nat} {σ : Sb} {vs vf : Sv}
def sdO (key : D32) (d : Nat) (n : Nd) : Int := if tb key.l d then n.right else n.left
def sdX (key : D32) (d : Nat) (n : Nd) : Int := if tb key.l d then n.left else n.right
theorem other_ok (h : StW D w gs σ) (z : Int) (n : Nd) (val : List UInt8) (hG : Got σ z n val true) (d : Nat) (hd : d < 256) (hn : n.depth = (d : Int)) (key : D32) :
    Calls Tryz.prog 212 #[.pointer (some ⟨gs, 0, none⟩), .int .i64 z, key.a] w fun e w' => e = .returned (.tuple #[.int .i64 (sdO key d n), .int .i64 (sdX key d n)]) ∧ Below w.heap.size w w' := by
  have hE : tb key.l d = true ∨ tb key.l d = false := by cases tb key.l d <;> simp
  have HGG := hZ hG; have HH := hZ h; rcases hE with hE | hE
  · have e1 : sdO key d n = n.right := by unfold sdO; simp [hE]
    have e2 : sdX key d n = n.left := by unfold sdX; simp [hE]
    rw [e1, e2]; have C := fun u => hZ (xjy u key d hd)
    rw [hE] at C; have CD := fun (u : World) (hu : StW D u gs σ) => hZ (xnw hu z n val hG)
    rw [hn] at CD; clear hE e1 e2 hn h hG; have HL := Loc.start w; obtain ⟨w0, rfl⟩ := eW w; go_enter Tryz.func212, Tryz.ntmps212; go_upto_region 0 with fail; refine X2t ?_; clear HL; intro g5 w HL; refine X1g ?_; go_upto_region 1 with fail; refine X2k ?_; intro K hK; refine xac cf138 rfl _ rfl ?_; refine X7e ?_; refine X45 ?_; clear hK K; intro w HL; refine X7c ?_; have HB := HL.below; go_upto_region 2 with fail; refine rB (Loc.P HL) [] [3, 4] [0, 1, 2, 3, 4, 5] 0 ?_; refine X3a ?_; intro HL; refine X6u ?_; refine X6s ?_; refine Xe ?_; intro K hK; refine xac cf243 rfl _ rfl ?_; refine X1y ?_; (with_reducible refine ((CD _ (HH.out.below HB.drew)).out).mono ?_); refine X44 ?_; intro w HL; refine X70 ?_; clear hK K; intro K hK; refine X5a ?_; refine X5b ?_; refine X7f ?_; clear hK K; intro w HL; refine X3i ?_; refine Xm ?_; go_upto_region 4 with fail; refine X18 ?_; refine X1f ?_
    go_wp2_with fail; go_ret2; exact ⟨rfl, HL.below⟩
  · have e1 : sdO key d n = n.left := by unfold sdO; simp [hE]
    have e2 : sdX key d n = n.right := by unfold sdX; simp [hE]
    rw [e1, e2]; have C := fun u => hZ (xjy u key d hd)
    rw [hE] at C; have CD := fun (u : World) (hu : StW D u gs σ) => hZ (xnw hu z n val hG)
    rw [hn] at CD; clear hE e1 e2 hn h hG; have HL := Loc.start w; obtain ⟨w0, rfl⟩ := eW w; go_enter Tryz.func212, Tryz.ntmps212; go_upto_region 0 with fail; refine X2t ?_; clear HL; intro g5 w HL; refine X1g ?_; go_upto_region 1 with fail; refine X2k ?_; intro K hK; refine xac cf138 rfl _ rfl ?_; refine X7e ?_; refine X45 ?_; clear hK K; intro w HL; refine X7c ?_; have HB := HL.below; go_upto_region 2 with fail; refine rB (Loc.P HL) [] [3, 4] [0, 1, 2, 3, 4, 5] 0 ?_; refine X3a ?_; intro HL; refine X6u ?_; refine X6s ?_; refine Xe ?_; intro K hK; refine xac cf243 rfl _ rfl ?_; refine X1y ?_; (with_reducible refine ((CD _ (HH.out.below HB.drew)).out).mono ?_); refine X44 ?_; intro w HL; refine X70 ?_; clear hK K; intro K hK; refine X5a ?_; refine X5b ?_; refine X7f ?_; clear hK K; intro w HL; refine X3i ?_; refine Xm ?_; go_upto_region 3 with fail; refine X18 ?_; refine X1f ?_
    go_wp2_with fail; go_ret2; exact ⟨rfl, HL.below⟩
inductive Way (σ : Sb) (key : D32) : Int → List Int → Int → Prop
  | stop (z : Int) (n : Nd) (val : List UInt8) (ok : Bool) : Got σ z n val ok → n.kind ≠ 2 → Way σ key z [] z
  | step (z : Int) (n : Nd) (val : List UInt8) (d : Nat) (l : List Int) (e : Int) : Got σ z n val true → n.kind = 2 → d < 256 → n.depth = (d : Int) → Way σ key (sdO key d n) l e → Way σ key z (z :: l) e
def iZ (l : List Int) : List Value := l.map fun z => .int .i64 z
theorem xpk (h : StW D w gs σ) (root : Int) (key : D32) (way : List Int) (fin : Int) (hway : Way σ key root way fin) (hl : way.length ≤ 4096)
    (hroot : ∀ u, StW D u gs σ → Calls Tryz.prog 154 #[.pointer (some ⟨gs, 0, none⟩), .int .i64 root] u fun e w' => e = .returned (.int .i64 0) ∧ Below u.heap.size u w') :
    Calls Tryz.prog 152 #[.pointer (some ⟨gs, 0, none⟩), .int .i64 root, key.a] w fun e w' => ∃ v : Sv, e = .returned (.tuple #[v.v, .int .i64 fin, .int .i64 0]) ∧ w'.ownsRow 0 3 1 v.v way.length (iZ way) ∧ (∀ k, v.v.ownBlock = some k → w.heap.size ≤ k) ∧ Below w.heap.size w w' := by
  have HH := hZ h; have HR := hZ hroot; have HW := hZ hway; clear h hroot hway; have HL := Loc.start w; obtain ⟨w0, rfl⟩ := eW w; go_enter Tryz.func152, Tryz.ntmps152; go_upto_region 0 with fail; refine X2t ?_; clear HL; intro g5 w HL; refine X5 ?_; refine X7g ?_; have hK0 : Blk w g5 24 key.c := HL.blk (.head _); have hB0 : Below w0.heap.size w0 w := HL.below; have hg5 : w0.heap.size ≤ g5 := Nat.le_of_not_lt (HL.own _ (.head _)).1; clear HL; have HL := Loc.start w; obtain ⟨w1, rfl⟩ := eW w; go_upto_region 1 with fail; refine X2k ?_; intro K hK; refine X7h ?_; refine X1y ?_; (with_reducible refine (HR.out _ ((HH.out.below hB0).below HL.below)).mono ?_); refine X7i ?_; clear hK K; intro w HL; go_upto_region 4 with fail; refine X7j ?_; have hB1 : Below w0.heap.size w0 w := hB0.trans (HL.below.mono hB0.size); have hK1 : Blk w g5 24 key.c := HL.farO hK0; clear HL hB0 hK0; go_wp2_with fail
  go_loopw [6, 7] (fun v z wr => ∃ (s : Sv) (done rest : List Int) (h : Int), v = s.v ∧ z = .int .i64 h ∧ done ++ rest = way ∧ Way σ key h rest fin ∧ wr.ownsRow 0 3 1 s.v done.length (iZ done) ∧ (∀ k, s.v.ownBlock = some k → w0.heap.size ≤ k ∧ k ≠ g5) ∧ Blk wr g5 24 key.c ∧ Below w0.heap.size w0 wr) (fun v _ _ => way.length - (match v with | .slice _ n _ => n | _ => 0))
  case atStart => exact ⟨Sv.nil, [], way, root, rfl, rfl, rfl, HW.out, ⟨rfl, .inl ⟨rfl, rfl⟩⟩, fun k hk => by simp [Sv.nil, Sv.v, Value.ownBlock] at hk, hK1, hB1⟩
  case round =>
    obtain ⟨s, done, rest, z, rfl, rfl, hcat, hW, ho, hs, hK, hB⟩ := hrel; have hlen : done.length + rest.length = way.length := by rw [← hcat]; simp
    have hsn := xex ho; have HC := hZ hcat; have HO := hZ ho; clear hcat hB1 hK1 ho; have HL := Loc.start wr; obtain ⟨w, rfl⟩ := eW wr; obtain ⟨w2, rfl⟩ := eW w
    cases hW with
    | stop _ n val ok hG hk =>
      have HG := hZ hG; have k1 : ((n.kind : Int) == 2) = false := by simp; omega
      have HKn := hZ hk; clear hG hk; go_upto_region 5 with fail; refine X7l ?_; intro K hK; (with_reducible refine (xd5 ((HH.out.below hB).below HL.below) _ n val ok HG.out).mono ?_); refine X45 ?_; clear hK K; intro w HL; refine X21 ?_; go_upto_region 7 with fail; refine X7m ?_; go_upto_region 6 with fail; refine X18 ?_; refine X7g ?_; go_wp2_with fail
      go_ret3
      have e : done = way := by rw [← HC.out]; simp
      subst e; exact ⟨s, rfl, xba HO.out (fun k hk => HL.heap (by have := (xb4 HO.out hk); obtain ⟨cs, hc⟩ := this; exact hc.lt)), fun k hk => (hs k hk).1, hB.trans (HL.below.mono hB.size)⟩
    | step _ n val d rest' _ hG hk hd hn hW2 =>
      have HG := hZ hG; have HN := hZ hn; have HW2 := hZ hW2; have k1 : ((n.kind : Int) == 2) = true := by rw [hk]; rfl
      clear hG hk hn hW2; go_upto_region 5 with fail; refine X7l ?_; intro K hK; (with_reducible refine (xd5 ((HH.out.below hB).below HL.below) _ n val true HG.out).mono ?_); refine X45 ?_; clear hK K; intro w HL; refine X21 ?_; go_upto_region 7 with fail; refine X7m ?_; go_upto_region 8 with fail; refine X18 ?_; refine xcm sl71 el3 rfl _ rfl HL _ rfl rfl ?_; clear HL; intro g25 w HL; (try simp only [Act.eval, qa, qb, qc, qd, qe] at HL); refine X5 ?_; refine wpList_plain rfl fun K hK2 => ?_
      refine xd4 sl71 el3 _ _ rfl s done.length (iZ done) rfl (xba HO.out (fun k hk => HL.heap (by obtain ⟨cs, hc⟩ := xb4 HO.out hk; exact hc.lt))) ⟨g25, 0, none⟩ 1 1 [.int .i64 z] rfl (Rd.of_blk0 (es := []) (HL.blk (.head _))) rfl (by simp [Value.oneCell']) (by omega) (by simp only [qr] at hlen; omega) (by simp only [qr] at hlen; omega) ?_; intro s' w' ho' hg' hk' hlt'; refine hK2 _ _ ?_; clear hK2 K; refine Xz ?_; have hs2 := ho'; rw [show iZ done ++ [Value.int .i64 z] = iZ (done ++ [z]) by simp [iZ]] at hs2; have hBx : Below w0.heap.size w0 w' := (hB.trans (HL.below.mono hB.size)).grown hg' (Nat.le_trans hB.size HL.fr.size) (fun k hk => (hs k hk).1); have hK2 : Blk w' g5 24 key.c := (HL.farO hK).grown hg' (fun e => (hs _ e.symm).2 rfl); have hg5lt : g5 < w.heap.size := (HL.farO hK).lt
      have hs' : ∀ k, s'.v.ownBlock = some k → w0.heap.size ≤ k ∧ k ≠ g5 := fun k hk => by
        rcases hk' k hk with h1 | h1
        · exact hs k h1
        · have := hBx.size
          exact ⟨by have h2 := Nat.le_trans hB.size HL.fr.size; omega, by omega⟩
      have HO2 := hZ hs2; clear HL ho' hg' hk' hs2 HO hK hB; have HL := Loc.start w'; obtain ⟨w, rfl⟩ : ∃ w, w = w' := ⟨_, rfl⟩; obtain ⟨w3, rfl⟩ := eW w; go_upto_region 9 with fail; refine X18 ?_; refine xaa rfl _ (xf1 ag24 HL _ rfl _ _ rfl _ _ _ hK2.lt hK2 (by rw [List.drop_zero, List.take_of_length_le (by rw [D32.cl]; omega)]) (D32.cl _)) ?_; refine X4z ?_; intro K hK; refine xac cf212 rfl _ rfl ?_; refine X1y ?_; (with_reducible refine (other_ok ((HH.out.below hBx).below HL.below) _ n val HG.out d hd HN.out key).mono ?_); refine X45 ?_; clear hK K; intro w HL; refine X14 ?_; refine X47 ?_; refine X46 ?_; refine X19 ?_; go_wp2_with fail; go_roundw
      case rel => exact ⟨s', done ++ [z], rest', _, rfl, rfl, by rw [← HC.out]; simp, HW2.out, by rw [List.length_append]; exact xba HO2.out (fun k hk => HL.heap (by obtain ⟨cs, hc⟩ := xb4 HO2.out hk; exact hc.lt)), hs', HL.farO hK2, hBx.trans (HL.below.mono hBx.size)⟩
      case measure =>
        have h1 := xex HO2.out; simp only [qr] at hlen; have h2 : s'.n = s.n + 1 := by rw [h1, hsn]
        have h3 : s.n < way.length := by omega
        show way.length - s'.n < way.length - s.n; omega
end
section
variable {P : Program} {w : World} {a : Act} {o : Oper}
theorem xmi {T T' n : Nat} (B : AB P T n) (x y : Operand) (ho : o.op = .binOp .neq T x y T') (xs ys : List UInt8) (ex : a.eval x = .agg (bvs xs).toArray) (ey : a.eval y = .agg (bvs ys).toArray) (hx : xs.length = n) (hy : ys.length = n) :
    (execOp a.eval o).run P w = .ok (.value (.bool (!(xs == ys)))) w := by
  have hr := AB.run (w := w) B xs ys hx hy
  have hg : (eqGuard .neq T x y (.agg (bvs xs).toArray) (.agg (bvs ys).toArray)).run P w = .ok () w := by
    simp [eqGuard, B.g]
  have hn : (binOp .neq T (.agg (bvs xs).toArray) (.agg (bvs ys).toArray)).run P w = .ok (.bool (!(xs == ys))) w := by
    have h1 : (Op.equal T (.agg (bvs xs).toArray) (.agg (bvs ys).toArray)).run P w = .ok (xs == ys) w := by
      have h2 : binOp .eql T (.agg (bvs xs).toArray) (.agg (bvs ys).toArray) = (do pure (.bool (← Op.equal T (.agg (bvs xs).toArray) (.agg (bvs ys).toArray)))) := rfl; rw [h2] at hr; simp only [Sem.run_bind] at hr; generalize (Op.equal T (.agg (bvs xs).toArray) (.agg (bvs ys).toArray)).run P w = r at hr
      cases r with
      | ok b w' => simp at hr; rw [hr.1, hr.2]
      | halt h w' => simp [Result.andThen] at hr
    have h3 : binOp .neq T (.agg (bvs xs).toArray) (.agg (bvs ys).toArray) = (do pure (.bool (!(← Op.equal T (.agg (bvs xs).toArray) (.agg (bvs ys).toArray))))) := rfl; rw [h3]; simp only [Sem.run_bind, h1, Result.andThen_ok, Sem.run_pure]
  unfold execOp; simp only [ho, ex, ey, Sem.run_bind, hg, Result.andThen_ok, hn, Sem.run_pure]
theorem xbm {t t' : TypeId} {b : Bool} {k : IntKind} (x y : Operand) (ho : o.op = .binOp .lss t x y t') (m n : Int) (hx : a.eval x = .int k m) (hy : a.eval y = .int k n) (hb : decide (m < n) = b) : (execOp a.eval o).run P w = .ok (.value (.bool b)) w := by
  subst hb; unfold execOp; simp only [ho, hx, hy]; go_simp
theorem xch {t t' : TypeId} {b : Bool} {k : IntKind} (x y : Operand) (ho : o.op = .binOp .gtr t x y t') (m n : Int) (hx : a.eval x = .int k m) (hy : a.eval y = .int k n) (hb : decide (n < m) = b) : (execOp a.eval o).run P w = .ok (.value (.bool b)) w := by
  subst hb; unfold execOp; simp only [ho, hx, hy]; go_simp
theorem xcq {t t' : TypeId} {b : Bool} {k : IntKind} (x y : Operand) (ho : o.op = .binOp .leq t x y t') (m n : Int) (hx : a.eval x = .int k m) (hy : a.eval y = .int k n) (hb : decide (m ≤ n) = b) : (execOp a.eval o).run P w = .ok (.value (.bool b)) w := by
  subst hb; unfold execOp; simp only [ho, hx, hy]; go_simp
theorem xfr {t t' : TypeId} {b : Bool} {k : IntKind} (x y : Operand) (ho : o.op = .binOp .geq t x y t') (m n : Int) (hx : a.eval x = .int k m) (hy : a.eval y = .int k n) (hb : decide (n ≤ m) = b) : (execOp a.eval o).run P w = .ok (.value (.bool b)) w := by
  subst hb; unfold execOp; simp only [ho, hx, hy]; go_simp
theorem xa3 {t t' : TypeId} {b : Bool} {k : IntKind} (x y : Operand) (ho : o.op = .binOp .eql t x y t') (m n : Int) (hx : a.eval x = .int k m) (hy : a.eval y = .int k n) (hb : (m == n) = b) : (execOp a.eval o).run P w = .ok (.value (.bool b)) w := by
  subst hb; unfold execOp; simp only [ho, hx, hy]; go_simp
theorem xfs {T T' : Nat} (B : AB P T 32) (x y : Operand) (ho : o.op = .binOp .eql T x y T') (p q : D32) (ex : a.eval x = .agg p.c.toArray) (ey : a.eval y = .agg q.c.toArray) (b : Bool) (h : (p.l == q.l) = b) :
    (execOp a.eval o).run P w = .ok (.value (.bool b)) w := by rw [xe7 B x y ho p.l q.l ex ey p.h q.h, h]
theorem xny {T T' : Nat} (B : AB P T 32) (x y : Operand) (ho : o.op = .binOp .neq T x y T') (p q : D32) (ex : a.eval x = .agg p.c.toArray) (ey : a.eval y = .agg q.c.toArray) (b : Bool) (h : (!(p.l == q.l)) = b) :
    (execOp a.eval o).run P w = .ok (.value (.bool b)) w := by rw [xmi B x y ho p.l q.l ex ey p.h q.h, h]
end
section
variable {D : Nat → Prop} {w w' : World} {gs g : Nat} {σ : Sb} {vs vf : Sv}
theorem xqy (h : StW D w gs σ) (hr : 1 ≤ σ.room ∧ σ.room ≤ 65536) (j : Nat) (hj : j ≤ 64) (hu : σ.used ≤ 65536) (b : Bool) (hb : decide ((σ.used : Int) + 258 * (j : Int) ≤ (σ.room : Int)) = b) :
    Calls Tryz.prog 144 #[.pointer (some ⟨gs, 0, none⟩), .int .i64 (j : Int)] w fun e w' => e = .returned (.bool b) ∧ w = w' := by
  have HH := hZ h; have k1 : decide ((0 : Int) < (σ.room : Int)) = true := by simp; omega
  have k2 : decide ((j : Int) ≤ 64) = true := by simp; omega
  have k3 : decide ((0 : Int) ≤ (j : Int)) = true := by simp
  have HB := hZ hb; have HI : Hid ((σ.used : Int) + 258 * (j : Int) = (σ.used : Int) + 258 * (j : Int)) := hZ rfl; have HM : Hid ((258 : Int) * (j : Int) = 258 * (j : Int)) := hZ rfl; clear h hb; go_enter Tryz.func144, Tryz.ntmps144; have HL := Loc.start w; go_upto_region 0 with fail; refine X1j ?_; go_upto_region 1 with fail; refine X1x ?_; intro K hK; refine X7n ?_; refine X1y ?_; (with_reducible refine (xf5 HH.out).mono ?_); rintro e w ⟨rfl, rfl⟩; refine X5i ?_; clear hK K; refine xaa rfl _ (xch (b := true) _ _ rfl _ _ rfl rfl k1) ?_; refine X26 ?_; refine xad rfl _ (xfr (b := true) _ _ rfl _ _ rfl rfl k3) ?_; refine X27 ?_; refine xad rfl _ (xcq (b := true) _ _ rfl _ _ rfl rfl k2) ?_; refine X27 ?_; refine X5g ?_; intro K hK; refine xac cf96 rfl _ rfl ?_; refine X1y ?_; (with_reducible refine (xin HH.out).mono ?_)
  rintro e w ⟨rfl, rfl⟩; refine X5i ?_; clear hK K; refine X1m ?_; refine xad rfl _ (xhv _ _ rfl _ _ _ rfl rfl HM.out (by omega)) ?_; refine X5 ?_; refine xad rfl _ (xay _ _ rfl _ _ _ rfl rfl HI.out (by omega)) ?_; refine X5 ?_; refine X5h ?_; intro K hK; refine X7n ?_; refine X1y ?_; (with_reducible refine (xf5 HH.out).mono ?_); rintro e w ⟨rfl, rfl⟩; refine X5i ?_; clear hK K; refine xad rfl _ (xcq _ _ rfl _ _ rfl rfl HB.out) ?_; refine X1u ?_; go_wp2_with fail; go_ret; exact ⟨rfl, rfl⟩
theorem xqz (h : StW D w gs σ) : Calls Tryz.prog 143 #[.pointer (some ⟨gs, 0, none⟩), .int .i64 0] w fun e w' => e = .returned (.int .i64 0) ∧ w = w' := by
  have HH := hZ h; clear h; have HL := Loc.start w; go_enter Tryz.func143, Tryz.ntmps143; go_upto_region 0 with fail; refine X1j ?_; go_upto_region 1 with fail; refine X2k ?_; intro K hK; refine X7h ?_; refine X1y ?_; (with_reducible refine (xhc HH.out).mono ?_); rintro e w ⟨rfl, rfl⟩; refine X2n ?_; clear hK K; go_upto_region 2 with fail; refine X2o ?_; go_upto_region 4 with fail; refine X5c ?_; refine no_implicit_lambda% (X2g ?_); refine X29 ?_; go_upto_region 6 with fail; refine X1j ?_; go_wp2_with fail; go_ret; exact ⟨rfl, rfl⟩
theorem athand (h : StW D w gs σ) (z : Int) (n : Nd) (val : List UInt8) (hG : Got σ z n val true) (hd : n.kind = 1 ∨ (n.kind = 2 ∧ n.depth = 0)) (hh : n.held ≠ 0) : Calls Tryz.prog 143 #[.pointer (some ⟨gs, 0, none⟩), .int .i64 z] w fun e w' => e = .returned (.int .i64 0) ∧ Below w.heap.size w w' := by
  have HH := hZ h; have HG := hZ hG; have HD := hZ hd
  have k1 : (z == 0) = false := by
    rcases hG with ⟨_, i, hz, _⟩ | ⟨e, _⟩
    · simp; omega
    · cases e
  have k2 : (n.held == 0) = false := by simpa using hh
  clear h hG hd hh; have HL := Loc.start w; obtain ⟨w0, rfl⟩ := eW w; go_enter Tryz.func143, Tryz.ntmps143; go_upto_region 0 with fail; refine X1j ?_; go_upto_region 1 with fail; refine X2k ?_; intro K hK; refine X7h ?_; refine X1y ?_; (with_reducible refine (xhd (HH.out.below HL.below) z n val HG.out HD.out).mono ?_); refine X7i ?_; clear hK K; intro w HL; go_upto_region 2 with fail; refine X2o ?_; go_upto_region 4 with fail; refine X11 ?_; refine X7o ?_; refine X26 ?_; refine X5h ?_; intro K hK; refine xac cf207 rfl _ rfl ?_; refine X1y ?_; (with_reducible refine (st_held (HH.out.below HL.below) z n val true HG.out).mono ?_); refine X4x ?_; clear hK K; intro w HL; refine X2b ?_; go_upto_region 6 with fail; refine X1j ?_; go_wp2_with fail; go_ret; exact ⟨rfl, HL.below⟩
theorem Loc.belowR {w1 w : World} {L0 L : List (Nat × Nat × List Value)} (H : Loc w1 (Rest w1 L0) L w) (n : Nat) (hn : n ≤ w1.heap.size) (h0 : ∀ x ∈ L0, n ≤ x.1) : Below n w1 w :=
  ⟨H.fr.os, H.fr.tape, H.fr.output, H.fr.size, fun k hk => H.heap ⟨by omega, fun x hx e => by have := h0 x hx; omega⟩⟩
theorem xsk (h : StW D w gs σ) (root : Int) (key : D32) (A : Option Addr) (m c : Nat) (way : List Int) (fin : Int) (hway : Way σ key root way fin) (hl : way.length ≤ 4096)
    (hroot : ∀ u, StW D u gs σ → Calls Tryz.prog 154 #[.pointer (some ⟨gs, 0, none⟩), .int .i64 root] u fun e w' => e = .returned (.int .i64 0) ∧ Below u.heap.size u w')
    (n : Nd) (val : List UInt8) (ok : Bool) (hG : Got σ fin n val ok) (hk : n.kind ≠ 1) :
    Calls Tryz.prog 145 #[.pointer (some ⟨gs, 0, none⟩), .int .i64 root, key.a, .slice A m c] w fun e w' => ∃ v : Sv, e = .returned (.agg (Plc.cells ⟨v, fin, false, false⟩).toArray) ∧ w'.ownsRow 0 3 1 v.v way.length (iZ way) ∧ (∀ k, v.v.ownBlock = some k → w.heap.size ≤ k) ∧ Below w.heap.size w w' := by
  have HH := hZ h; have HR := hZ hroot; have HW := hZ hway; have HG := hZ hG; have k1 : ((n.kind : Int) == 1) = false := by simp; omega
  clear h hroot hway hG hk; have HL := Loc.start w; obtain ⟨w0, rfl⟩ := eW w; go_enter Tryz.func145, Tryz.ntmps145; go_upto_region 0 with fail; refine X7p ?_; clear HL; intro g6 w HL; refine X5 ?_; refine xai zr246 rfl rfl HL ?_; clear HL; intro g8 w HL; refine X21 ?_; refine X7q ?_; intro hg6 hg8; have hg8l : g8 < w.heap.size := (HL.blk (.head _)).lt; refine X7r ?_; intro h68 hg6l; go_upto_region 1 with fail; refine X18 ?_; refine X7s ?_; refine X4z ?_; intro K hK; refine xac cf152 rfl _ rfl ?_; refine X1y ?_; refine X7t ?_; rintro e w ⟨v, rfl, ho, hvb, hb⟩; have hB1 : Below w0.heap.size w0 w := HL.below.trans (hb.mono HL.below.size)
  have hv8 : ∀ k, v.v.ownBlock = some k → w0.heap.size ≤ k ∧ k ≠ g8 ∧ k ≠ g6 := fun k hk => by
    have := hvb k hk; have := HL.below.size; omega
  replace HL := HL.redo (T := fun _ => False) (Fr.of_below hb) (fun _ _ f => f); clear hb hvb; have HO := hZ ho; clear ho; obtain ⟨w1, rfl⟩ := eW w; refine X51 ?_; clear hK K; refine X47 ?_; refine X7u ?_; refine X5 ?_; refine xa1 sc71 rfl _ _ rfl HL 0 _ _ _ _ _ _ rfl rfl rfl rfl (by rw [Plc.len]; decide) (Plc.s_above _ _) ?_; refine X34 ?_; clear HL; intro w HL; refine Xt ?_; refine X7v ?_; refine X5 ?_; refine xa1 sc3 rfl _ _ rfl HL 0 _ _ _ _ _ _ rfl rfl rfl rfl (by rw [Plc.len]; decide) (Plc.s_fin _ _) ?_; refine X35 ?_; clear HL; intro w HL
  have hL0 : ∀ x ∈ [(g8, 246, Plc.z.cells), (g6, 24, key.c)], w0.heap.size ≤ x.1 := by
    intro x hx; simp at hx; rcases hx with rfl | rfl
    · exact hg8
    · exact hg6
  go_upto_region 2 with fail; refine X11 ?_; refine X7v ?_; refine X5 ?_; refine X7w ?_; refine X4z ?_; intro K hK; refine X7k ?_; refine X7x ?_; refine X4x ?_; clear hK K; intro w HL; refine X1t ?_; go_upto_region 3 with fail; refine rB (Loc.P HL) [] [5] [0, 1, 2, 3, 4, 6, 5, 7, 8, 9] 0 ?_; refine X3u ?_; intro HL; refine X80 ?_; refine X81 ?_; refine X7y ?_; refine X3i ?_; refine X5 ?_; refine X4p ?_; refine X82 ?_; intro hb8 HX; clear HL; have HL := HX; clear HX; replace hb8 := hb8.drew; go_upto_region 4 with fail; refine X83 ?_; refine X3u ?_; intro HL; refine X80 ?_; refine X7y ?_; refine X3b ?_; refine X81 ?_; refine X7z ?_; refine X3i ?_; refine X3g ?_; refine X7z ?_; refine X3i ?_; refine X5 ?_; refine xab rfl rfl HL (fun W hW => xaf xi3 _ rfl _ rfl) ?_; refine Xf ?_; intro K hK
  refine xds sc4 _ _ rfl g8 2 246 _ (.bool false) rfl hb8 rfl rfl (by rw [Plc.len]; decide) ?_; intro w' hb' hf' _; rw [Plc.s_same] at hb'; replace HL := HL.frame hf' (fun k hk hd => hd.2 (g8, 246, Plc.z.cells) (.head _) hk.symm) (by simp; omega); refine hK _ _ (fun _ => HL) ?_; clear hK K hb8 hf'; have hb8 := hb'; clear hb'; obtain ⟨w, rfl⟩ : ∃ w, w = w' := ⟨_, rfl⟩; refine X5 ?_; refine xab rfl rfl HL (fun W hW => xaf xi4 _ rfl _ rfl) ?_; refine Xf ?_; intro K hK; refine xds sc4 _ _ rfl g8 3 246 _ (.bool false) rfl hb8 rfl rfl (by rw [Plc.len]; decide) ?_; intro w' hb' hf' _; rw [Plc.s_other] at hb'; replace HL := HL.frame hf' (fun k hk hd => hd.2 (g8, 246, Plc.z.cells) (.head _) hk.symm) (by simp; omega); refine hK _ _ (fun _ => HL) ?_; clear hK K hb8 hf'; have hb8 := hb'; clear hb'; obtain ⟨w, rfl⟩ : ∃ w, w = w' := ⟨_, rfl⟩; refine Xm ?_
  have hB2 : Below w0.heap.size w0 w := hB1.trans (HL.belowR _ hB1.size hL0)
  have hO2 : w.ownsRow 0 3 1 v.v way.length (iZ way) := xba HO.out (fun k hk => HL.heap ⟨by obtain ⟨cs, hc⟩ := xb4 HO.out hk; exact hc.lt, fun x hx e => by
    simp at hx; have := hv8 k hk; rcases hx with rfl | rfl
    · exact this.2.1 e.symm
    · exact this.2.2 e.symm⟩)
  clear HL; have HL := (Loc.start w).adopt (fun k => k = g8) [(g8, 246, Plc.cells ⟨v, fin, false, false⟩)] (by simp; exact hb8) (by simp); simp only [qn] at HL; obtain ⟨w2, rfl⟩ := eW w; go_upto_region 5 with fail; refine X84 ?_; refine X5 ?_; refine X85 ?_; refine X35 ?_; clear HL; intro w HL; go_wp2_with fail; refine X86 ?_; have hf := HL.frS; refine ⟨v, rfl, xba hO2 (fun k hk => hf.block k (by obtain ⟨cs, hc⟩ := xb4 hO2 hk; exact hc.lt) (hv8 k hk).2.1), fun k hk => (hv8 k hk).1, hB2.trans ⟨hf.os, hf.tape, hf.output, hf.size, fun k hk => hf.block k (by have := hB2.size; omega) (by omega)⟩⟩
theorem xsl (h : StW D w gs σ) (root : Int) (key : D32) (A : Option Addr) (m c : Nat) (way : List Int) (fin : Int) (hway : Way σ key root way fin) (hl : way.length ≤ 4096)
    (hroot : ∀ u, StW D u gs σ → Calls Tryz.prog 154 #[.pointer (some ⟨gs, 0, none⟩), .int .i64 root] u fun e w' => e = .returned (.int .i64 0) ∧ Below u.heap.size u w')
    (n : Nd) (val : List UInt8) (ok : Bool) (hG : Got σ fin n val ok) (hk : n.kind = 1) (hne : n.key.l ≠ key.l) :
    Calls Tryz.prog 145 #[.pointer (some ⟨gs, 0, none⟩), .int .i64 root, key.a, .slice A m c] w fun e w' => ∃ v : Sv, e = .returned (.agg (Plc.cells ⟨v, fin, false, true⟩).toArray) ∧ w'.ownsRow 0 3 1 v.v way.length (iZ way) ∧ (∀ k, v.v.ownBlock = some k → w.heap.size ≤ k) ∧ Below w.heap.size w w' := by
  have HH := hZ h; have HR := hZ hroot; have HW := hZ hway; have HG := hZ hG; have k1 : ((n.kind : Int) == 1) = true := by rw [hk]; rfl
  have HNE : Hid ((n.key.l == key.l) = false) := hZ (by simpa using hne); clear hne; clear h hroot hway hG hk; have HL := Loc.start w; obtain ⟨w0, rfl⟩ := eW w; go_enter Tryz.func145, Tryz.ntmps145; go_upto_region 0 with fail; refine X7p ?_; clear HL; intro g6 w HL; refine X5 ?_; refine xai zr246 rfl rfl HL ?_; clear HL; intro g8 w HL; refine X21 ?_; refine X7q ?_; intro hg6 hg8; have hg8l : g8 < w.heap.size := (HL.blk (.head _)).lt; refine X7r ?_; intro h68 hg6l; go_upto_region 1 with fail; refine X18 ?_; refine X7s ?_; refine X4z ?_; intro K hK; refine xac cf152 rfl _ rfl ?_; refine X1y ?_; refine X7t ?_; rintro e w ⟨v, rfl, ho, hvb, hb⟩; have hB1 : Below w0.heap.size w0 w := HL.below.trans (hb.mono HL.below.size)
  have hv8 : ∀ k, v.v.ownBlock = some k → w0.heap.size ≤ k ∧ k ≠ g8 ∧ k ≠ g6 := fun k hk => by
    have := hvb k hk; have := HL.below.size; omega
  replace HL := HL.redo (T := fun _ => False) (Fr.of_below hb) (fun _ _ f => f); clear hb hvb; have HO := hZ ho; clear ho; obtain ⟨w1, rfl⟩ := eW w; refine X51 ?_; clear hK K; refine X47 ?_; refine X7u ?_; refine X5 ?_; refine xa1 sc71 rfl _ _ rfl HL 0 _ _ _ _ _ _ rfl rfl rfl rfl (by rw [Plc.len]; decide) (Plc.s_above _ _) ?_; refine X34 ?_; clear HL; intro w HL; refine Xt ?_; refine X7v ?_; refine X5 ?_; refine xa1 sc3 rfl _ _ rfl HL 0 _ _ _ _ _ _ rfl rfl rfl rfl (by rw [Plc.len]; decide) (Plc.s_fin _ _) ?_; refine X35 ?_; clear HL; intro w HL
  have hL0 : ∀ x ∈ [(g8, 246, Plc.z.cells), (g6, 24, key.c)], w0.heap.size ≤ x.1 := by
    intro x hx; simp at hx; rcases hx with rfl | rfl
    · exact hg8
    · exact hg6
  go_upto_region 2 with fail; refine X11 ?_; refine X7v ?_; refine X5 ?_; refine X7w ?_; refine X4z ?_; intro K hK; refine X7k ?_; refine X7x ?_; refine X4x ?_; clear hK K; intro w HL; refine X1t ?_; go_upto_region 3 with fail; refine rB (Loc.P HL) [] [5] [0, 1, 2, 3, 4, 6, 5, 7, 8, 9] 0 ?_; refine X3u ?_; intro HL; refine X3b ?_; refine xab rfl rfl HL (fun W hW => xaf xl8 _ rfl _ rfl) ?_; refine X5 ?_; refine X87 ?_; refine X5 ?_; refine X5o ?_; refine Xf ?_; intro K hK; refine X88 ?_; (with_reducible refine (xme (HH.out.below (hB1.trans (HL.belowR _ hB1.size hL0))) _ n val ok HG.out).mono ?_); refine X7f ?_; clear hK K; intro w HL; refine xab rfl rfl HL (fun W hW => xfs ab23 _ _ rfl n.key key rfl rfl _ HNE.out) ?_; refine X3j ?_; refine X5 ?_; refine X4p ?_; refine X82 ?_; intro hb8 HX; clear HL; have HL := HX; clear HX; replace hb8 := hb8.drew
  go_upto_region 4 with fail; refine X83 ?_; refine X3u ?_; intro HL; refine X80 ?_; refine X7y ?_; refine X3b ?_; refine X81 ?_; refine X7z ?_; refine X3i ?_; refine X6s ?_; refine X3i ?_; refine X3j ?_; refine X5 ?_; refine xab rfl rfl HL (fun W hW => xaf xi3 _ rfl _ rfl) ?_; refine Xf ?_; intro K hK; refine xds sc4 _ _ rfl g8 2 246 _ (.bool false) rfl hb8 rfl rfl (by rw [Plc.len]; decide) ?_; intro w' hb' hf' _; rw [Plc.s_same] at hb'; replace HL := HL.frame hf' (fun k hk hd => hd.2 (g8, 246, Plc.z.cells) (.head _) hk.symm) (by simp; omega); refine hK _ _ (fun _ => HL) ?_; clear hK K hb8 hf'; have hb8 := hb'; clear hb'; obtain ⟨w, rfl⟩ : ∃ w, w = w' := ⟨_, rfl⟩; refine X5 ?_; refine xab rfl rfl HL (fun W hW => xaf xi4 _ rfl _ rfl) ?_; refine Xf ?_; intro K hK
  refine xds sc4 _ _ rfl g8 3 246 _ (.bool true) rfl hb8 rfl rfl (by rw [Plc.len]; decide) ?_; intro w' hb' hf' _; rw [Plc.s_other] at hb'; replace HL := HL.frame hf' (fun k hk hd => hd.2 (g8, 246, Plc.z.cells) (.head _) hk.symm) (by simp; omega); refine hK _ _ (fun _ => HL) ?_; clear hK K hb8 hf'; have hb8 := hb'; clear hb'; obtain ⟨w, rfl⟩ : ∃ w, w = w' := ⟨_, rfl⟩; refine Xm ?_; have hB2 : Below w0.heap.size w0 w := hB1.trans (HL.belowR _ hB1.size hL0)
  have hO2 : w.ownsRow 0 3 1 v.v way.length (iZ way) := xba HO.out (fun k hk => HL.heap ⟨by obtain ⟨cs, hc⟩ := xb4 HO.out hk; exact hc.lt, fun x hx e => by
    simp at hx; have := hv8 k hk; rcases hx with rfl | rfl
    · exact this.2.1 e.symm
    · exact this.2.2 e.symm⟩)
  clear HL; have HL := (Loc.start w).adopt (fun k => k = g8) [(g8, 246, Plc.cells ⟨v, fin, false, true⟩)] (by simp; exact hb8) (by simp); simp only [qn] at HL; obtain ⟨w2, rfl⟩ := eW w; go_upto_region 5 with fail; refine X84 ?_; refine X5 ?_; refine X85 ?_; refine X35 ?_; clear HL; intro w HL; go_wp2_with fail; refine X86 ?_; have hf := HL.frS; refine ⟨v, rfl, xba hO2 (fun k hk => hf.block k (by obtain ⟨cs, hc⟩ := xb4 hO2 hk; exact hc.lt) (hv8 k hk).2.1), fun k hk => (hv8 k hk).1, hB2.trans ⟨hf.os, hf.tape, hf.output, hf.size, fun k hk => hf.block k (by have := hB2.size; omega) (by omega)⟩⟩
end
section
variable {D : Nat → Prop} {w w' : World} {gs g : Nat} {σ : Sb} {vs vf : Sv}
theorem xei {P : Program} {w : World} {a : Act} {o : Oper} {t t' : TypeId} {b : Bool} (x y : Operand) (ho : o.op = .binOp .neq t x y t') (m n : Int) (hx : a.eval x = .int .u8 m) (hy : a.eval y = .int .u8 n) (h : (m == n) = !b) :
    (execOp a.eval o).run P w = .ok (.value (.bool b)) w := by
  unfold execOp; simp only [ho, hx, hy]; go_simp; cases b <;> simp_all
theorem xnz (h : StW D w gs σ) (root : Int) (key : D32) (way : List Int) (fin : Int) (hway : Way σ key root way fin) (hl : way.length ≤ 4096)
    (hroot : ∀ u, StW D u gs σ → Calls Tryz.prog 154 #[.pointer (some ⟨gs, 0, none⟩), .int .i64 root] u fun e w' => e = .returned (.int .i64 0) ∧ Below u.heap.size u w')
    (n : Nd) (val : List UInt8) (ok : Bool) (hG : Got σ fin n val ok) (hk : n.kind = 1) (hne : n.key.l = key.l) (hvl : val.length ≤ 1024) :
    Calls Tryz.prog 93 #[.pointer (some ⟨gs, 0, none⟩), .int .i64 root, key.a] w fun e w' => ∃ v, e = .returned (.tuple #[v, .bool true, .int .i64 0]) ∧ OwnB w' w.heap.size 5 v val ∧ Below w.heap.size w w' := by
  have HH := hZ h; have HR := hZ hroot; have HW := hZ hway; have HG := hZ hG; have k1 : ((n.kind : Int) == 1) = !false := by rw [hk]; rfl
  have HNE : Hid ((!(n.key.l == key.l)) = false) := hZ (by simpa using hne); clear h hroot hway hG hk hne; have HL := Loc.start w; obtain ⟨w0, rfl⟩ := eW w; go_enter Tryz.func93, Tryz.ntmps93; go_upto_region 0 with fail; refine X2t ?_; clear HL; intro g5 w HL; refine X5 ?_; refine X7g ?_; have hg5 : w0.heap.size ≤ g5 := Nat.le_of_not_lt (HL.own _ (.head _)).1; go_upto_region 1 with fail; refine X18 ?_; refine X6q ?_; refine X4z ?_; intro K hK; refine xac cf152 rfl _ rfl ?_; refine X1y ?_; refine X7t ?_; rintro e w ⟨v, rfl, ho, hvb, hb⟩; replace HL := HL.next hb; clear hb ho hvb; refine X51 ?_; clear hK K; refine X47 ?_; refine X7g ?_; have hK0 : Blk w g5 24 key.c := HL.blk (.head _); have hB0 : Below w0.heap.size w0 w := HL.below; clear HL; have HL := Loc.start w; obtain ⟨w1, rfl⟩ := eW w; go_upto_region 2 with fail
  refine rB (Loc.P HL) [] [5, 11] [0, 1, 2, 3, 4, 5, 6, 7, 8, 9, 10, 12, 11, 13, 14] 0 ?_; refine X3c ?_; intro HL; refine X3i ?_; refine X89 ?_; refine Xe ?_; intro K hK; refine X7k ?_; (with_reducible refine (xd5 (HH.out.below (hB0.trans (HL.below.mono hB0.size))) _ n val ok HG.out).mono ?_); refine X7f ?_; clear hK K; intro w HL; refine xab rfl rfl HL (fun W hW => xei _ _ rfl _ _ rfl rfl k1) ?_; refine X3j ?_; refine X89 ?_; refine xab rfl rfl HL (fun W hW => xf1 ag24 hW _ rfl _ _ rfl _ _ _ hK0.lt hK0 (by rw [List.drop_zero, List.take_of_length_le (by rw [D32.cl]; omega)]) (D32.cl _)) ?_; refine Xf ?_; intro K hK; refine X88 ?_; (with_reducible refine (xme (HH.out.below (hB0.trans (HL.below.mono hB0.size))) _ n val ok HG.out).mono ?_); refine X7f ?_; clear hK K; intro w HL
  refine xab rfl rfl HL (fun W hW => xny ab23 _ _ rfl n.key key rfl rfl _ HNE.out) ?_; refine X3k ?_; go_upto_region 4 with fail; refine X2k ?_; intro K hK; refine X8a ?_; (with_reducible refine (xnx (HH.out.below (hB0.trans (HL.below.mono hB0.size))) _ n val ok HG.out hvl).mono ?_); rintro e w ⟨v, rfl, hov, hb⟩; have hsz : w0.heap.size ≤ w.heap.size := Nat.le_trans hB0.size (Nat.le_trans HL.fr.size hb.size); have hov2 := hov.mono (Nat.le_trans hB0.size HL.fr.size); replace HL := HL.next hb; clear hb hov; refine X5i ?_; clear hK K; refine X7g ?_; go_wp2_with fail
  go_ret3
  exact ⟨v, rfl, hov2, hB0.trans (HL.below.mono hB0.size)⟩
theorem join_one (h : StP D w gs g σ vs vf) (d : Nat) (hd : d < 256) (key : D32) (own other z : Int) (σ' : Sb) (hb : tb key.l d = true)
    (hI : ∀ u, StP D u gs g σ vs vf → Calls Tryz.prog 210 #[.pointer (some ⟨gs, 0, none⟩), .int .i64 (d : Int), .int .i64 other, .int .i64 own] u (Goes D u gs g (.tuple #[.int .i64 z, .int .i64 0]) σ')) :
    Calls Tryz.prog 149 #[.pointer (some ⟨gs, 0, none⟩), .int .i64 (d : Int), key.a, .int .i64 own, .int .i64 other] w (Goes D w gs g (.int .i64 z) σ') := by
  have HH := hZ h; have HI := hZ hI; have C := fun u => hZ (xjy u key d hd)
  rw [hb] at C; clear h hI hb; have HL := Loc.start w; obtain ⟨w0, rfl⟩ := eW w; go_enter Tryz.func149, Tryz.ntmps149; go_upto_region 0 with fail; refine Xs ?_; refine xcb rfl _ rfl HL _ rfl ?_; clear HL; intro g7 w HL; refine X19 ?_; go_upto_region 1 with fail; refine X18 ?_; refine X1f ?_; go_upto_region 2 with fail; refine Xs ?_; refine X6q ?_; refine X42 ?_; intro K hK; refine X5a ?_; refine X5b ?_; refine X45 ?_; clear hK K; intro w HL; refine X2a ?_; go_upto_region 3 with fail; refine X18 ?_; refine X1f ?_; go_upto_region 4 with fail; refine X8c ?_; intro K hK; refine X8d ?_; (with_reducible refine (HI.out _ (HH.out.below HL.below)).mono ?_); rintro e w ⟨D', vs', vf', rfl, hP, hS⟩; have hS2 := (Stp.of_below HL.below).trans hS; clear HL hS; refine X7d ?_; clear hK K; go_upto_region 5 with fail; refine X7j ?_; go_wp2_with fail; go_ret; exact ⟨_, _, _, rfl, hP, hS2⟩
end
section
variable {P : Program} {T E : TypeId} {w0 w1 w w' : World} {D : Nat → Prop} {L L0 L1 G : List (Nat × Nat × List Value)} {o : Oper} {a : Act} {K : Act → World → Prop} {Q : Exit → Act → World → Prop}
theorem Gw.rdm {z n : Nat} {v : Sv} {xs : List Value} (h : Gw E z G v n xs) (hm : ∀ x ∈ G, x ∈ L) (H : Loc w0 D L w) : Rd w v.A xs := by
  obtain ⟨hl, ⟨rfl, rfl, rfl⟩ | ⟨g, cap, tl, rfl, rfl, h1, h2, h3⟩⟩ := h
  · have : xs = [] := List.eq_nil_of_length_eq_zero (by rw [hl]; omega)
    subst this; exact Rd.nil _ _
  · exact Rd.of_blk0 (H.blk (hm (g, E, xs ++ tl) (by simp)))
theorem Gw.txm {v : Sv} {l : List UInt8} (h : Gw 5 1 G v l.length (bvs l)) (hm : ∀ x ∈ G, x ∈ L) (H : Loc w0 D L w) : Tx w v.A v.n v.c l := ⟨h.len.symm, h.cap.1, h.cap.2, h.rdm hm H, fun _ _ h => h⟩
inductive Gws : List (Nat × Nat × List Value) → List Sv → List (List UInt8) → Prop
  | nil : Gws [] [] []
  | snoc {Gs G : List (Nat × Nat × List Value)} {vs : List Sv} {ls : List (List UInt8)} {sv : Sv} {l : List UInt8} (hs : Gws Gs vs ls) (h : Gw 5 1 G sv l.length (bvs l)) : Gws (Gs ++ G) (vs ++ [sv]) (ls ++ [l])
structure AllTx (N : Nat) (w : World) (vs : List Sv) (ls : List (List UInt8)) : Prop where
  len : vs.length = ls.length
  tx : ∀ (i : Nat) (v : Sv) (l : List UInt8), vs[i]? = some v → ls[i]? = some l → Tx w v.A v.n v.c l ∧ ∀ ad, v.A = some ad → N ≤ ad.block
theorem Gw.fars {z n N : Nat} {v : Sv} {xs : List Value} (h : Gw E z G v n xs) (hN : ∀ x ∈ G, N ≤ x.1) : ∀ ad, v.A = some ad → N ≤ ad.block := by
  intro ad e; obtain ⟨hl, ⟨rfl, rfl, rfl⟩ | ⟨g, cap, tl, rfl, rfl, h1, h2, h3⟩⟩ := h
  · cases e
  · cases e
    exact hN _ (List.mem_singleton.2 rfl)
theorem Gws.all {N : Nat} {Gs : List (Nat × Nat × List Value)} {vs : List Sv} {ls : List (List UInt8)} (h : Gws Gs vs ls) (hm : ∀ x ∈ Gs, x ∈ L) (hN : ∀ x ∈ Gs, N ≤ x.1) (H : Loc w0 D L w) : AllTx N w vs ls := by
  induction h with
  | nil => exact ⟨rfl, fun i v l hv => by cases hv⟩
  | @snoc Gs G vs ls sv l0 hs h ih =>
    have h0 := ih (fun x hx => hm x (List.mem_append.2 (.inl hx))) (fun x hx => hN x (List.mem_append.2 (.inl hx))); refine ⟨by simp [h0.len], fun i v l hv hl => ?_⟩; have hle := h0.len; by_cases hi : i < vs.length
    · rw [List.getElem?_append_left hi] at hv
      rw [List.getElem?_append_left (by rw [← hle]; exact hi)] at hl; exact h0.tx i v l hv hl
    · rw [List.getElem?_append_right (by omega)] at hv
      rw [List.getElem?_append_right (by omega), ← hle] at hl; have h1 := List.mem_singleton.1 (List.mem_of_getElem? hv); have h2 := List.mem_singleton.1 (List.mem_of_getElem? hl); subst h1 h2; exact ⟨h.txm (fun x hx => hm x (List.mem_append.2 (.inr hx))) H, h.fars (fun x hx => hN x (List.mem_append.2 (.inr hx)))⟩
theorem Rd.keep0 {A : Option Addr} {cs : List Value} (h : Rd w1 A cs) (H : Loc w1 D L w) (hD : ∀ ad, A = some ad → ad.block < w1.heap.size → D ad.block) : Rd w A cs := by
  intro hn; obtain ⟨ad, e, hc⟩ := h hn; refine H.rd (fun ad' e' => ?_) h hn; rw [e] at e'; cases e'; refine hD ad e ?_; have := World.block_lt_of_cell? _ _ (hc 0 _ (List.getElem?_eq_getElem hn)); rwa [show (ad.add 0).block = ad.block by unfold Addr.add; split <;> rfl] at this
theorem xgm (B : W1 P T) (x : Operand) (ho : o.op = .load T x) (ad : Addr) (v : Value) (hx : a.eval x = .pointer (some ad)) (hr : Rd w (some ad) [v]) : (execOp a.eval o).run P w = .ok (.value v) w := by
  have e : ad.add 0 = ad := by unfold Addr.add; split <;> simp_all
  exact xbp B x ho ad 0 [v] v (by rw [e]; exact hx) hr rfl
end
section
variable {P : Program} {w : World} {a : Act} {o : Oper} {t t' : TypeId}
theorem xf6 {b : Bool} (x : Operand) (ho : o.op = .unOp .not t x) (c : Bool) (hx : a.eval x = .bool c) (hb : (!c) = b) : (execOp a.eval o).run P w = .ok (.value (.bool b)) w := by
  subst hb; unfold execOp; simp only [ho, hx]; go_simp
end
theorem Loc.oldRest {w0 w1 : World} {L0 : List (Nat × Nat × List Value)} (H1 : Loc w0 (Old w0) L0 w1) (k : Nat) (hk : k < w0.heap.size) : Rest w1 L0 k := ⟨Nat.lt_of_lt_of_le hk H1.fr.size, fun x hx e => (H1.own x hx).1 (by rw [e]; exact hk)⟩
theorem Loc.after {D : Nat → Prop} {L : List (Nat × Nat × List Value)} {w0 w w1 : World} (H : Loc w0 D L w) (hb : Below w.heap.size w w1) : Loc w1 (Rest w1 L) L w1 := (H.next hb).redo (Fr.refl (fun _ => False) _) (fun _ _ h => h)
theorem Loc.fresh {D : Nat → Prop} {L : List (Nat × Nat × List Value)} {w0 w w1 : World} (H : Loc w0 D L w) {k : Nat} (h1 : w.heap.size ≤ k) (h2 : k < w1.heap.size) : Rest w1 L k := ⟨h2, fun x hx e => by have := (H.own x hx).2.lt; omega⟩
section
variable {W0 w : World} {D : Nat → Prop} {L : List (Nat × Nat × List Value)}
theorem Rd.keepE {A : Option Addr} {cs : List Value} (h : Rd W0 A cs) (H : Loc W0 D L w) (hD : cs ≠ [] → ∀ ad, A = some ad → D ad.block) : Rd w A cs := by
  intro hn; exact Rd.keep0 h H (fun ad e _ => hD (by intro e2; rw [e2] at hn; exact absurd hn (by simp)) ad e) hn
end
theorem tx_nil (w : World) : Tx w none 0 0 [] := ⟨rfl, Nat.le_refl _, by unfold maxLen; omega, Rd.nil _ _, fun _ _ h => h⟩
section
variable {w1 w w2 : World} {D : Nat → Prop} {L : List (Nat × Nat × List Value)} {N : Nat}
theorem Rd.lt {A : Option Addr} {cs : List Value} (h : Rd w A cs) (hne : cs ≠ []) {ad : Addr} (e : A = some ad) : ad.block < w.heap.size := by
  obtain ⟨ad', e', hc⟩ := h (List.length_pos_iff.2 hne); rw [e] at e'; cases e'; have := World.block_lt_of_cell? _ _ (hc 0 _ (List.getElem?_eq_getElem (List.length_pos_iff.2 hne))); rwa [show (ad.add 0).block = ad.block by unfold Addr.add; split <;> rfl] at this
theorem bvs_ne {l : List UInt8} (h : bvs l ≠ []) : l ≠ [] := by rintro rfl; exact h rfl
theorem bvs_ne2 {l : List UInt8} (h : l ≠ []) : bvs l ≠ [] := by
  cases l with
  | nil => exact absurd rfl h
  | cons x xs => intro e; cases e
theorem fm_ne {α : Type} {f : α → List Value} {z : Nat} (hz : ∀ x, (f x).length = z) (h0 : 0 < z) {xs : List α} : xs.flatMap f ≠ [] ↔ xs ≠ [] := by
  constructor
  · rintro h rfl; exact h rfl
  · intro h e
    have h1 := xcc hz xs; rw [e, List.length_nil] at h1; have h2 := List.length_pos_iff.2 h; have h3 := Nat.mul_pos h2 h0; omega
end
theorem xav {P : Program} {w : World} {a : Act} {o : Oper} {t e : TypeId} (ht : P.underlying t = some (.slice e)) (x : Operand) (ho : o.op = .call { callee := .builtin .len, args := #[x], argTypes := #[t] }) (sv : Sv) (n : Nat) (hx : a.eval x = sv.v) (hn : sv.n = n) :
    (execOp a.eval o).run P w = .ok (.value (.int .i64 (n : Int))) w := by
  subst hn; exact xcs ht x ho _ _ _ hx
theorem xdu {α : Type} {l : List α} {k : Nat} {v : α} (h : l[k]? = some v) : (l.drop k).take 1 = [v] := by
  obtain ⟨h1, h2⟩ := List.getElem?_eq_some_iff.1 h; rw [List.drop_eq_getElem_cons h1, h2]; rfl
section
variable {D : Nat → Prop} {w w' : World} {gs g : Nat} {σ : Sb} {vs vf : Sv}
theorem Loc.goes {w0 w w' : World} {D0 D D' : Nat → Prop} {L : List (Nat × Nat × List Value)} (H : Loc w0 (fun k => Old w0 k ∧ ¬ D0 k) L w) (hA : (∀ k, D k → ¬ (Old w0 k ∧ ¬ D0 k)) ∧ ∀ y ∈ L, ¬ D y.1) (hs : Stp D w D' w') :
    Loc w0 (fun k => Old w0 k ∧ ¬ D0 k) L w' ∧ ((∀ k, D' k → ¬ (Old w0 k ∧ ¬ D0 k)) ∧ ∀ y ∈ L, ¬ D' y.1) := by
  refine ⟨H.frame hs.fr hA.1 hA.2, fun k hk => ?_, fun y hy hk => ?_⟩
  · rcases hs.new k hk with h1 | h1
    · exact hA.1 k h1
    · have := H.fr.size
      unfold Old; omega
  · rcases hs.new _ hk with h1 | h1
    · exact hA.2 y hy h1
    · have := (H.own y hy).2.lt
      omega
theorem got0 : Got σ 0 Nd.z [] false := Or.inr ⟨rfl, by omega, rfl, rfl⟩
theorem way0 (key : D32) : Way σ key 0 [] 0 := .stop _ _ _ false got0 (by decide)
theorem root0 : ∀ u, StW D u gs σ → Calls Tryz.prog 154 #[.pointer (some ⟨gs, 0, none⟩), .int .i64 0] u fun e w' => e = .returned (.int .i64 0) ∧ Below u.heap.size u w' := fun u hu =>
  (xhc hu).mono (by rintro e w' ⟨rfl, rfl⟩; exact ⟨rfl, Below.refl _ _⟩)
theorem rootL (z : Int) (n : Nd) (val : List UInt8) (hG : Got σ z n val true) (hd : n.kind = 1) : ∀ u, StW D u gs σ → Calls Tryz.prog 154 #[.pointer (some ⟨gs, 0, none⟩), .int .i64 z] u fun e w' => e = .returned (.int .i64 0) ∧ Below u.heap.size u w' := fun u hu =>
  xhd hu z n val hG (.inl hd)
theorem wayL (key : D32) (z : Int) (n : Nd) (val : List UInt8) (hG : Got σ z n val true) (hd : n.kind = 1) : Way σ key z [] z := .stop _ _ _ true hG (by rw [hd]; decide)
theorem fits1 (h : StW D w gs σ) (hr : 1 ≤ σ.room ∧ σ.room ≤ 65536) (hu : σ.used + 258 ≤ σ.room) :
    Calls Tryz.prog 144 #[.pointer (some ⟨gs, 0, none⟩), .int .i64 1] w fun e w' => e = .returned (.bool true) ∧ w = w' :=
  xqy h hr 1 (by omega) (by omega) true (by simp; omega)
theorem xsm (h : StP D w gs g σ vs vf) (key : D32) (A : Option Addr) (n c : Nat) (val : List UInt8) (hr : Rd w A (bvs val)) (hn : val.length = n ∧ n ≤ c ∧ c ≤ maxLen ∧ n ≤ 1024) (hfit : σ.used + 258 ≤ σ.room) :
    Calls Tryz.prog 90 #[.pointer (some ⟨gs, 0, none⟩), .int .i64 0, key.a, .slice A n c] w (Took D w gs g σ fun x => ⟨xbu key val x, 1, val⟩) := by
  have HH := hZ h; have hcs := h.sb.ok; have r1 := hcs.r1; have r2 := hcs.r2; clear hcs; have HN := hZ hn; have HF := hZ hfit; have HR := hZ hr; have kroom : ((σ.room : Int) == 0) = false := by simp; omega
  have klen : decide ((1024 : Int) < (n : Int)) = false := by simp; omega
  have hDO : ∀ k, D k → k < w.heap.size := h.sb.lt; clear h hn hr hfit; have HL := Loc.start w; obtain ⟨w0, rfl⟩ := eW w; go_enter Tryz.func90, Tryz.ntmps90; go_upto_region 0 with fail; refine X7p ?_; clear HL; intro g6 w HL; refine X1g ?_; go_upto_region 1 with fail; refine X1x ?_; intro K hK; refine X7n ?_; refine X1y ?_; (with_reducible refine (xf5 (HH.out.below HL.below).sw).mono ?_); rintro e w ⟨rfl, rfl⟩; refine X5i ?_; clear hK K; refine X8e ?_; go_upto_region 3 with fail; refine X11 ?_; refine X5k ?_; refine X5 ?_; refine X8f ?_; go_upto_region 5 with fail; refine X2k ?_; intro K hK; refine xac cf143 rfl _ rfl ?_; refine X1y ?_; (with_reducible refine (xqz (HH.out.below HL.below).sw).mono ?_); rintro e w ⟨rfl, rfl⟩; refine X2n ?_; clear hK K; go_upto_region 6 with fail; refine X2o ?_; go_upto_region 8 with fail; refine X1x ?_; intro K hK
  refine xac cf144 rfl _ rfl ?_; refine X8g ?_; rintro e w ⟨rfl, rfl⟩; refine X20 ?_; clear hK K; refine X2a ?_; go_upto_region 10 with fail; refine X18 ?_; refine X6q ?_; refine X42 ?_; intro K hK; refine xac cf145 rfl _ rfl ?_; refine X1y ?_; (with_reducible refine (xsk (HH.out.below HL.below).sw 0 key A n c [] 0 (way0 _) (by simp) root0 Nd.z [] false got0 (by decide)).mono ?_); rintro e w ⟨v, rfl, ho, hvb, hb⟩; replace HL := HL.next hb; have hvn := xex ho; obtain ⟨vA, vn, vc⟩ := v; simp only [qs] at hvn; subst hvn; clear hb ho hvb; refine X5i ?_; clear hK K; refine xai zr246 rfl rfl HL ?_; clear HL; intro g11 w HL; refine X5 ?_; refine X85 ?_; refine X35 ?_; clear HL; intro w HL; go_upto_region 11 with fail; refine Xs ?_; refine xaa rfl _ (xaf xi3 _ rfl _ rfl) ?_; refine X5 ?_; refine X8h ?_; have hP := HH.out.below HL.below
  have hS0 : Stp D w0 D w := Stp.of_below HL.below; have hrd := HL.rdO HR.out; have HA : (∀ k, D k → ¬ (Old w0 k ∧ ¬ D k)) ∧ ∀ y ∈ [(g11, 246, Plc.cells ⟨⟨vA, 0, vc⟩, 0, false, false⟩), (g6, 24, key.c)], ¬ D y.1 := ⟨fun k hk hd => hd.2 hk, fun y hy hk => (HL.own y hy).1 (hDO _ hk)⟩; refine X8i ?_; intro HX; clear HL; have HL := HX; clear HX; go_upto_region 13 with fail; refine X11 ?_; refine X7s ?_; refine X42 ?_; intro K hK; refine X8j ?_; (with_reducible refine (xmg hP key A n c val hrd HN.out.1 HN.out.2.1 HN.out.2.2.1 HN.out.2.2.2 (by have := HF.out; omega)).mono ?_); rintro e w ⟨D1, vs1, vf1, x, rfl, hP1, hst⟩; obtain ⟨HL2, HA2⟩ := HL.goes HA hst; clear HL HA; have HL := HL2; have HA := HA2; have hS1 := hS0.trans hst; clear HL2 HA2 hst hS0 hP hrd; refine X7d ?_; clear hK K; go_upto_region 14 with fail; refine Xs ?_; refine xaa rfl _ (xaf xi4 _ rfl _ rfl) ?_
  refine X5 ?_; refine X8k ?_; go_upto_region 22 with fail; refine Xs ?_; refine X7u ?_; refine X5 ?_; refine X8l ?_; refine X5 ?_; refine X3n ?_; refine X1u ?_; go_wp2_with fail; refine wp_loop_rounds 1 ?_; rw [rounds_succ]; go_upto_region 23 with fail; refine X2o ?_; go_upto_region 32 with fail; refine X2o ?_; go_upto_region 34 with fail; refine X3r ?_; go_wp2_with fail; go_ret2; exact ⟨D1, vs1, vf1, x, rfl, hP1, hS1⟩
abbrev xj1 (k : D32) (v : List UInt8) (x : Sv) (h : Int) : Nd := { xbu k v x with held := h }
def σA (k : D32) (v : List UInt8) (x : Sv) (room : Nat) : Sb := ⟨[⟨xbu k v x, 1, v⟩], [], room, 1⟩
def σ2 (k : D32) (v : List UInt8) (x : Sv) (l : D32) (u : List UInt8) (y : Sv) (room : Nat) : Sb := ⟨[⟨xbu k v x, 1, v⟩, ⟨xbu l u y, 1, u⟩], [], room, 2⟩
def σB (k : D32) (v : List UInt8) (x : Sv) (l : D32) (u : List UInt8) (y : Sv) (room : Nat) : Sb := ⟨[⟨xj1 k v x 2, 2, v⟩, ⟨xbu l u y, 1, u⟩], [], room, 2⟩
abbrev twoNd (k : D32) (v : List UInt8) (l : D32) (u : List UInt8) : Nd := xcn 0 k (tagL k (tagV v)) (tagL l (tagV u)) 1 2 2
def σC (k : D32) (v : List UInt8) (x : Sv) (l : D32) (u : List UInt8) (y : Sv) (room : Nat) : Sb := ⟨[⟨xj1 k v x 1, 2, v⟩, ⟨xj1 l u y 0, 1, u⟩, ⟨twoNd k v l u, 1, []⟩], [], room, 3⟩
def σD (k : D32) (v : List UInt8) (x : Sv) (l : D32) (u : List UInt8) (y : Sv) (room : Nat) : Sb := ⟨[⟨xj1 k v x 0, 1, v⟩, ⟨xj1 l u y 0, 1, u⟩, ⟨twoNd k v l u, 1, []⟩], [], room, 3⟩
section
variable {k l : D32} {v u : List UInt8} {x y : Sv} {room : Nat}
theorem leaf_two (h : StP D w gs g (σA k v x room) vs vf) (key : D32) (A : Option Addr) (n c : Nat) (val : List UInt8) (hr : Rd w A (bvs val)) (hl : val.length = n) (hcap : n ≤ c) (hmax : c ≤ maxLen) (hn : n ≤ 1024) (hroom : 1 < room) :
    Calls Tryz.prog 146 #[.pointer (some ⟨gs, 0, none⟩), key.a, .slice A n c] w fun e w' => ∃ D' vs' vf' y, e = .returned (.tuple #[.int .i64 2, .int .i64 0]) ∧ StP D' w' gs g (σ2 k v x key val y room) vs' vf' ∧ Stp D w D' w' :=
  (xmg h key A n c val hr hl hcap hmax hn hroom).mono (by rintro e w' ⟨D', vs', vf', y, rfl, h1, h2⟩; exact ⟨D', vs', vf', y, rfl, h1, h2⟩)
theorem hold_two (h : StP D w gs g (σ2 k v x l u y room) vs vf) : Calls Tryz.prog 129 #[.pointer (some ⟨gs, 0, none⟩), .int .i64 1] w fun e w' => e = .returned (.int .i64 0) ∧ StP D w' gs g (σB k v x l u y room) vs vf ∧ Stp D w D w' :=
  (xmf h 1 0 rfl (Nat.zero_lt_succ _) (show (0:Int) < 1 by decide) (show (1:Int) < 1073741824 by decide) (show -4611686018427387904 ≤ (1:Int) ∧ (1:Int) ≤ 4611686018427387900 by decide)).mono (by rintro e w' ⟨rfl, h1, h2⟩; exact ⟨rfl, h1, Stp.of_fr h2 fun k hk => h.sb.own k hk⟩)
theorem xsn (h : StP D w gs g (σB k v x l u y room) vs vf) (hk : tb k.l 0 = false) (hl : tb l.l 0 = true) (hroom : 2 < room) :
    Calls Tryz.prog 210 #[.pointer (some ⟨gs, 0, none⟩), .int .i64 ((0 : Nat) : Int), .int .i64 1, .int .i64 2] w (Goes D w gs g (.tuple #[.int .i64 3, .int .i64 0]) (σC k v x l u y room)) :=
  (xgl h ⟨List.nodup_nil, fun n hn => by cases hn⟩ 0 (by omega) 0 1 rfl (Nat.zero_lt_succ _) (xj1 k v x 2) rfl (show (2:Int) ≠ 0 by decide) ⟨by show (tb k.l 0).toNat = 0; rw [hk]; rfl, fun e => by cases e⟩ (show (0:Int) < 2 ∧ (2:Int) ≤ 4611686018427387904 by decide) (show (0:Int) ≤ 1 ∧ (1:Int) ≤ 1073741824 by decide) 1 2 rfl (Nat.succ_lt_succ (Nat.zero_lt_succ _)) (xbu l u y) rfl (show (1:Int) ≠ 0 by decide) ⟨by show (tb l.l 0).toNat = 1; rw [hl]; rfl, fun e => by cases e⟩ (show (0:Int) < 1 ∧ (1:Int) ≤ 4611686018427387904 by decide) (show (0:Int) ≤ 1 ∧ (1:Int) ≤ 1073741824 by decide) (by omega) (Nat.zero_le _) hroom).mono (by
    rintro e w' ⟨D', vs', vf', rfl, h1, h2⟩; exact ⟨D', vs', vf', rfl, h1, h2⟩)
theorem join_two (h : StP D w gs g (σB k v x l u y room) vs vf) (hk : tb k.l 0 = false) (hl : tb l.l 0 = true) (hroom : 2 < room) :
    Calls Tryz.prog 149 #[.pointer (some ⟨gs, 0, none⟩), .int .i64 0, l.a, .int .i64 2, .int .i64 1] w (Goes D w gs g (.int .i64 3) (σC k v x l u y room)) :=
  join_one h 0 (by omega) l 2 1 3 _ hl fun u hu => xsn hu hk hl hroom
theorem drop_two (h : StP D w gs g (σC k v x l u y room) vs vf) : Calls Tryz.prog 130 #[.pointer (some ⟨gs, 0, none⟩), .int .i64 1] w (Goes D w gs g (.tuple #[.int .i64 0, .int .i64 0]) (σD k v x l u y room)) :=
  (xmh h 1 0 rfl (Nat.zero_lt_succ _) (show (1:Int) < 2 by decide) (show (2:Int) < 1099511627776 by decide) (show (0:Int) < 1 ∧ (1:Int) ≤ 4611686018427387904 by decide)).mono (by rintro e w' ⟨D', vs', vf', rfl, h1, h2⟩; exact ⟨D', vs', vf', rfl, h1, h2⟩)
theorem gotA : Got (σA k v x room) 1 (xbu k v x) v true := .inl ⟨rfl, 0, rfl, Nat.zero_lt_succ _, rfl, rfl, (show (1:Int) ≠ 0 by decide)⟩
theorem got2 : Got (σ2 k v x l u y room) 1 (xbu k v x) v true := .inl ⟨rfl, 0, rfl, Nat.zero_lt_succ _, rfl, rfl, (show (1:Int) ≠ 0 by decide)⟩
end
theorem xpl (k1 : D32) (v1 : List UInt8) (x1 : Sv) (room : Nat) (h : StP D w gs g (σA k1 v1 x1 room) vs vf) (key : D32) (A : Option Addr) (n c : Nat) (val : List UInt8) (hr : Rd w A (bvs val)) (hn : val.length = n ∧ n ≤ c ∧ c ≤ maxLen ∧ n ≤ 1024) (hfit : 259 ≤ room)
    (hk1 : tb k1.l 0 = false) (hk2 : tb key.l 0 = true) (hc : comm key.l k1.l = 0) :
    Calls Tryz.prog 90 #[.pointer (some ⟨gs, 0, none⟩), .int .i64 1, key.a, .slice A n c] w fun e w' => ∃ D' vs' vf' x, e = .returned (.tuple #[.int .i64 3, .int .i64 0]) ∧ StP D' w' gs g (σD k1 v1 x1 key val x room) vs' vf' ∧ Stp D w D' w' := by
  have HH := hZ h; have hcs := h.sb.ok; have r1 := hcs.r1; have r2 := hcs.r2; clear hcs; have HN := hZ hn; have HF := hZ (show (σA k1 v1 x1 room).used + 258 ≤ (σA k1 v1 x1 room).room from by show 1 + 258 ≤ room; omega); have HR := hZ hr; have kroom : (((σA k1 v1 x1 room).room : Int) == 0) = false := by simp; omega
  have klen : decide ((1024 : Int) < (n : Int)) = false := by simp; omega
  have hDO : ∀ k, D k → k < w.heap.size := h.sb.lt; have HK : Hid ((xbu k1 v1 x1).key.l ≠ key.l) := hZ (by intro e; have e2 : k1.l = key.l := e; rw [e2, hk2] at hk1; cases hk1); have HK2 := hZ (And.intro hk1 hk2)
  have CM : ∀ u, Calls Tryz.prog 147 #[key.a, (xbu k1 v1 x1).key.a] u fun e w' => e = .returned (.int .i64 0) ∧ Below u.heap.size u w' := fun u => by
    have h1 := xnr u key k1; rw [hc] at h1; exact h1
  have HROOM := hZ hfit; clear h hn hr hfit hk1 hk2 hc; have HL := Loc.start w; obtain ⟨w0, rfl⟩ := eW w; go_enter Tryz.func90, Tryz.ntmps90; go_upto_region 0 with fail; refine X7p ?_; clear HL; intro g6 w HL; refine X1g ?_; go_upto_region 1 with fail; refine X1x ?_; intro K hK; refine X7n ?_; refine X1y ?_; (with_reducible refine (xf5 (HH.out.below HL.below).sw).mono ?_); rintro e w ⟨rfl, rfl⟩; refine X5i ?_; clear hK K; refine X8e ?_; go_upto_region 3 with fail; refine X11 ?_; refine X5k ?_; refine X5 ?_; refine X8f ?_; go_upto_region 5 with fail; refine X2k ?_; intro K hK; refine xac cf143 rfl _ rfl ?_; refine X1y ?_; (with_reducible refine (athand (HH.out.below HL.below).sw 1 _ _ gotA (.inl rfl) (show (1:Int) ≠ 0 by decide)).mono ?_); refine X7i ?_; clear hK K; intro w HL; go_upto_region 6 with fail; refine X2o ?_; go_upto_region 8 with fail; refine X1x ?_; intro K hK
  refine xac cf144 rfl _ rfl ?_; refine X8g ?_; rintro e w ⟨rfl, rfl⟩; refine X20 ?_; clear hK K; refine X2a ?_; go_upto_region 10 with fail; refine X18 ?_; refine X6q ?_; refine X42 ?_; intro K hK; refine xac cf145 rfl _ rfl ?_; refine X1y ?_; (with_reducible refine (xsl (HH.out.below HL.below).sw 1 key A n c [] 1 (wayL key 1 _ _ gotA rfl) (by simp) (rootL 1 _ _ gotA rfl) _ _ true gotA rfl HK.out).mono ?_); rintro e w ⟨v, rfl, ho, hvb, hb⟩; replace HL := HL.next hb; have hvn := xex ho; obtain ⟨vA, vn, vc⟩ := v; simp only [qs] at hvn; subst hvn; clear hb ho hvb; refine X5i ?_; clear hK K; refine xai zr246 rfl rfl HL ?_; clear HL; intro g11 w HL; refine X5 ?_; refine X85 ?_; refine X35 ?_; clear HL; intro w HL; go_upto_region 11 with fail; refine Xs ?_; refine xaa rfl _ (xaf xi3 _ rfl _ rfl) ?_; refine X5 ?_; refine X8h ?_
  have hP := HH.out.below HL.below; have hS0 : Stp D w0 D w := Stp.of_below HL.below; have hrd := HL.rdO HR.out; have HA : (∀ k, D k → ¬ (Old w0 k ∧ ¬ D k)) ∧ ∀ y ∈ [(g11, 246, Plc.cells ⟨⟨vA, 0, vc⟩, 1, false, true⟩), (g6, 24, key.c)], ¬ D y.1 := ⟨fun k hk hd => hd.2 hk, fun y hy hk => (HL.own y hy).1 (hDO _ hk)⟩; refine X8i ?_; intro HX; clear HL; have HL := HX; clear HX; go_upto_region 13 with fail; refine X11 ?_; refine X7s ?_; refine X42 ?_; intro K hK; refine X8j ?_; (with_reducible refine (leaf_two hP key A n c val hrd HN.out.1 HN.out.2.1 HN.out.2.2.1 HN.out.2.2.2 (by have := HROOM.out; omega)).mono ?_); rintro e w ⟨D1, vs1, vf1, x, rfl, hP1, hst⟩; obtain ⟨HL2, HA2⟩ := HL.goes HA hst; clear HL HA; have HL := HL2; have HA := HA2; have hS1 := hS0.trans hst; clear HL2 HA2 hst hS0 hP hrd; refine X7d ?_; clear hK K; go_upto_region 14 with fail; refine Xs ?_
  refine xaa rfl _ (xaf xi4 _ rfl _ rfl) ?_; refine X5 ?_; refine X8k ?_; have HP1 := hZ hP1; clear hP1; obtain ⟨w1, rfl⟩ := eW w; go_upto_region 15 with fail; refine rB (Loc.P HL) [] [4, 5] [0, 1, 2, 3, 4, 5, 6] 0 ?_; refine X3a ?_; intro HL; refine X5o ?_; refine X3g ?_; refine xab rfl rfl HL (fun W hW => xaf xl8 _ rfl _ rfl) ?_; refine X5 ?_; refine X87 ?_; refine Xf ?_; intro K hK; refine X88 ?_; (with_reducible refine (xme (HP1.out.sw.below (Below.refl _ _).drew) 1 (xbu k1 v1 x1) v1 true got2).mono ?_); refine X43 ?_; intro w hb HL; refine X5q ?_; intro hB1; clear hb; refine X70 ?_; clear hK K; intro K hK; refine xac cf147 rfl _ rfl ?_; refine X1y ?_; (with_reducible refine (CM _).mono ?_); refine X43 ?_; intro w hb HL; replace hB1 : Below w1.heap.size w1 w := hB1.trans (hb.mono hB1.size); clear hb; refine X58 ?_; clear hK K; refine X4p ?_
  have hP1 := HP1.out.below hB1; have hS1b := hS1.trans (Stp.of_below hB1); clear HP1 hB1 hS1; go_upto_region 16 with fail; refine X11 ?_; refine X7v ?_; refine X5 ?_; refine X7w ?_; refine X4z ?_; intro K hK; refine xac cf129 rfl _ rfl ?_; refine X1y ?_; (with_reducible refine (hold_two hP1).mono ?_); rintro e w ⟨rfl, hP2, hst⟩; obtain ⟨HL2, HA2⟩ := HL.goes HA hst; clear HL HA; have HL := HL2; have HA := HA2; have hS2 := hS1b.trans hst; clear HL2 HA2 hst hS1b hP1; refine X22 ?_; clear hK K; go_upto_region 17 with fail; refine X18 ?_; refine X7s ?_; refine X14 ?_; refine X7v ?_; refine X5 ?_; refine X7w ?_; refine X4z ?_; intro K hK; refine xac cf149 rfl _ rfl ?_; refine X1y ?_; (with_reducible refine (join_two hP2 HK2.out.1 HK2.out.2 (by have := HROOM.out; omega)).mono ?_); rintro e w ⟨D3, vs3, vf3, rfl, hP3, hst⟩; obtain ⟨HL2, HA2⟩ := HL.goes HA hst; clear HL HA; have HL := HL2
  have HA := HA2; have hS3 := hS2.trans hst; clear HL2 HA2 hst hS2 hP2; refine X2n ?_; clear hK K; go_upto_region 18 with fail; refine X5d ?_; go_wp2_with fail; refine wp_loop_rounds 1 ?_; rw [rounds_succ]; go_upto_region 19 with fail; refine X11 ?_; refine X7u ?_; refine X5 ?_; refine X8l ?_; refine X5 ?_; refine X3n ?_; refine X2a ?_; go_upto_region 22 with fail; refine Xs ?_; refine X7u ?_; refine X5 ?_; refine X8l ?_; refine X5 ?_; refine X3n ?_; refine X1u ?_; go_wp2_with fail; refine wp_loop_rounds 1 ?_; rw [rounds_succ]; go_upto_region 23 with fail; refine X2o ?_; go_upto_region 32 with fail; refine X2o ?_; go_upto_region 33 with fail; refine X2k ?_; intro K hK; refine X8m ?_; (with_reducible refine (drop_two hP3).mono ?_); rintro e w ⟨D4, vs4, vf4, rfl, hP4, hst⟩; have hS4 := hS3.trans hst; clear hst hS3 hP3 HL HA; refine X22 ?_; clear hK K; go_upto_region 34 with fail
  refine X3r ?_; go_wp2_with fail; go_ret2; exact ⟨D4, vs4, vf4, x, rfl, hP4, hS4⟩
end
section
variable {P : Program} {t : TypeId} {w0 w : World} {D : Nat → Prop} {L : List (Nat × Nat × List Value)} {ops : Array Oper} {rest : List Oper} {o : Oper} {a : Act} {Q : Exit → Act → World → Prop}
theorem lo_map (hgd : o.guard = none) (ho : o.op = .makeMap t none) (H : Loc w0 D L w)
    (h : ∀ g w', Loc w0 D L w' → wpList P ops Q rest (a.put o.dst (.map (some g))) w') : wpList P ops Q (o :: rest) a w := by
  refine X1 ?_; intro K hK; unfold Oper.wp execOp; simp only [ho, Option.map_none, Sem.run_bind, run_makeMap_plain, Result.andThen_ok]; exact hK _ _ (h _ _ (H.next ((Below.refl _ _).alloc (Nat.le_refl _) _)))
end
section
variable {D : Nat → Prop} {w w' : World} {gd gs g : Nat} {σ : Sb} {vs vf : Sv} {nm : Value} {root : Int}
theorem xk4 (r : Nat) (h1 : 1 ≤ r) (h2 : r ≤ 65536) : Calls Tryz.prog 91 #[.int .i64 (r : Int)] w fun e w' => ∃ gs g D, e = .returned (.tuple #[.pointer (some ⟨gs, 0, none⟩), .int .i64 0]) ∧ StP D w' gs g ⟨[], [], r, 0⟩ Sv.nil Sv.nil ∧ (∀ k, D k → w.heap.size ≤ k) ∧ Below w.heap.size w w' := by
  have HL := Loc.start w; obtain ⟨w0, rfl⟩ := eW w; go_enter Tryz.func91, Tryz.ntmps91; go_upto_region 0 with fail; refine X2z ?_; go_upto_region 1 with fail; refine X1x ?_; intro K hK; refine xac cf151 rfl _ rfl ?_; refine X1y ?_; (with_reducible refine (sb_new r h1 h2).mono ?_); rintro e w ⟨g, rfl, hg, hsb, hb⟩; have hB1 := HL.below.trans (hb.mono HL.below.size); have hg2 := Nat.le_trans HL.below.size hg; clear HL hb hg; have HL := Loc.start w; obtain ⟨w1, rfl⟩ := eW w; refine X7d ?_; clear hK K; go_upto_region 2 with fail; refine X2o ?_; go_upto_region 4 with fail; refine X11 ?_; refine xaa rfl _ (xbq bs256 _ rfl _ (by exact bd256_25 _ rfl)) ?_; refine X5 ?_; refine xcb rfl _ rfl HL _ rfl ?_; clear HL; intro g16 w HL; refine X1g ?_; go_wp2_with fail; go_ret2; have hgs := HL.own _ (.head _); have hsb2 := hsb.below HL.below
  refine ⟨g16, g, (fun k => k = g ∨ k = g16), rfl, ⟨hgs.2, .inr rfl, hsb2.more (fun k hk => .inl hk) ?_⟩, ?_, hB1.trans (HL.below.mono hB1.size)⟩
  · rintro k (rfl | rfl)
    · exact hsb2.lt _ rfl
    · exact hgs.2.lt
  · rintro k (rfl | rfl)
    · exact hg2
    · have := hgs.1
      unfold Old at this; have := hB1.size; omega
theorem xmj (h : StW D w gs σ) (hr : 1 ≤ σ.room) : Calls Tryz.prog 92 #[.pointer (some ⟨gs, 0, none⟩)] w fun e w' => ∃ gv, e = .returned (.tuple #[.pointer (some ⟨gv, 0, none⟩), .int .i64 0]) ∧ Below w.heap.size w w' := by
  have HH := hZ h; have k1 : ((σ.room : Int) == 0) = false := by simp; omega
  clear h; have HL := Loc.start w; obtain ⟨w0, rfl⟩ := eW w; go_enter Tryz.func92, Tryz.ntmps92; go_upto_region 0 with fail; refine X2z ?_; go_upto_region 1 with fail; refine X1x ?_; intro K hK; refine X7n ?_; refine X1y ?_; (with_reducible refine (xf5 (HH.out.below HL.below)).mono ?_); rintro e w ⟨rfl, rfl⟩; refine X5i ?_; clear hK K; refine X8n ?_; refine X21 ?_; go_upto_region 3 with fail; refine X11 ?_; refine lo_map rfl rfl HL ?_; clear HL; intro g8 w HL; refine X8o ?_; refine X5 ?_; refine xcb rfl _ rfl HL _ rfl ?_; clear HL; intro g10 w HL; refine X1g ?_; go_wp2_with fail; go_ret2; exact ⟨_, rfl, HL.below⟩
structure DcP (D : Nat → Prop) (w : World) (gd gs g : Nat) (σ : Sb) (vs vf : Sv) (nm : Value) (root : Int) : Prop where
  blk : Blk w gd 166 [nm, .pointer (some ⟨gs, 0, none⟩), .int .i64 root]
  st : StP D w gs g σ vs vf
  far : ¬ D gd
theorem DcP.c1 (h : DcP D w gd gs g σ vs vf nm root) : w.cell? ⟨gd, 1, none⟩ = some (.pointer (some ⟨gs, 0, none⟩)) := by rw [h.blk.cell]; rfl
theorem DcP.c2 (h : DcP D w gd gs g σ vs vf nm root) : w.cell? ⟨gd, 2, none⟩ = some (.int .i64 root) := by rw [h.blk.cell]; rfl
theorem DcP.below (h : DcP D w gd gs g σ vs vf nm root) (hb : Below w.heap.size w w') : DcP D w' gd gs g σ vs vf nm root := ⟨h.blk.below hb h.blk.lt, h.st.below hb, h.far⟩
theorem dict_new (r : Nat) (h1 : 1 ≤ r) (h2 : r ≤ 65536) : Calls Tryz.prog 36 #[.int .i64 (r : Int)] w fun e w' => ∃ gd gs g D nm, e = .returned (.tuple #[.pointer (some ⟨gd, 0, none⟩), .int .i64 0]) ∧ DcP D w' gd gs g ⟨[], [], r, 0⟩ Sv.nil Sv.nil nm 0 ∧ (∀ k, D k → w.heap.size ≤ k) ∧ w.heap.size ≤ gd ∧ Below w.heap.size w w' := by
  have HL := Loc.start w; obtain ⟨w0, rfl⟩ := eW w; go_enter Tryz.func36, Tryz.ntmps36; go_upto_region 0 with fail; refine X2z ?_; go_upto_region 1 with fail; refine X1x ?_; intro K hK; refine xac cf91 rfl _ rfl ?_; refine X1y ?_; (with_reducible refine (xk4 r h1 h2).mono ?_); rintro e w ⟨gs, g, D, rfl, hst, hnew, hb⟩; refine X8p ?_; intro hB1 hnew2; clear HL hb hnew; have HL := Loc.start w; obtain ⟨w1, rfl⟩ := eW w; refine X7d ?_; clear hK K; go_upto_region 2 with fail; refine X2o ?_; go_upto_region 4 with fail; refine X1x ?_; intro K hK; refine xac cf92 rfl _ rfl ?_; refine X1y ?_; (with_reducible refine (xmj (hst.below HL.below).sw h1).mono ?_); rintro e w ⟨gv, rfl, hb⟩; replace HL := HL.next hb; clear hb; refine X7d ?_; clear hK K; go_upto_region 5 with fail; refine X2o ?_; go_upto_region 7 with fail; refine X8q ?_; refine X8r ?_; refine X5 ?_
  refine xcb rfl _ rfl HL _ rfl ?_; clear HL; intro g27 w HL; refine X1g ?_; go_wp2_with fail; go_ret2; have hgd := HL.own _ (.head _); refine ⟨g27, gs, g, D, _, rfl, ⟨hgd.2, hst.below HL.below, fun hk => hgd.1 (hst.sb.lt _ hk)⟩, hnew2, ?_, hB1.trans (HL.below.mono hB1.size)⟩; have := hgd.1; unfold Old at this; have := hB1.size; omega
end
end Go.Proofs.YtkjjdgnkelchfaaGreat
