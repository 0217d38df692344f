import Derived.LaidEqlPtr
import Derived.Test.YtehbahobkgoapaaPSS2
namespace Go.Proofs.Ytehbahobkgoapaa
open Go Go.RowKit
set_option linter.unusedSimpArgs false
set_option linter.unusedVariables false
def upd {α : Type} (f : Nat → α) (i : Nat) (x : α) : Nat → α := fun j => if j = i then x else f j
theorem upd_at {α : Type} (f : Nat → α) (i : Nat) (x : α) : upd f i x i = x := by simp [upd]
theorem upd_ne {α : Type} (f : Nat → α) (i j : Nat) (x : α) (h : j ≠ i) : upd f i x j = f j := by simp [upd, h]
def ptr3 (P : Nat → Nat) : List Value := [.pointer (some ⟨P 0, 0, none⟩), .pointer (some ⟨P 1, 0, none⟩), .pointer (some ⟨P 2, 0, none⟩)]
def val3 (V : Nat → Value) : List Value := [V 0, V 1, V 2]
theorem ptr3_set (P : Nat → Nat) (i q : Nat) (hi : i < 3) : (ptr3 P).set i (.pointer (some ⟨q, 0, none⟩)) = ptr3 (upd P i q) := by
  have : i = 0 ∨ i = 1 ∨ i = 2 := by omega
  rcases this with rfl | rfl | rfl <;> rfl
theorem val3_set (V : Nat → Value) (i : Nat) (v : Value) (hi : i < 3) : (val3 V).set i v = val3 (upd V i v) := by
  have : i = 0 ∨ i = 1 ∨ i = 2 := by omega
  rcases this with rfl | rfl | rfl <;> rfl
theorem ptr3_cell {w : World} {g t : Nat} {P : Nat → Nat} (h : Blk w g t (ptr3 P)) (i : Nat) (hi : i < 3) : w.cell? ⟨g, i, none⟩ = some (.pointer (some ⟨P i, 0, none⟩)) := by
  have : i = 0 ∨ i = 1 ∨ i = 2 := by omega
  rcases this with rfl | rfl | rfl <;> (rw [h.cell]; rfl)
theorem val3_cell {w : World} {g t : Nat} {V : Nat → Value} (h : Blk w g t (val3 V)) (i : Nat) (hi : i < 3) : w.cell? ⟨g, i, none⟩ = some (V i) := by
  have : i = 0 ∨ i = 1 ∨ i = 2 := by omega
  rcases this with rfl | rfl | rfl <;> (rw [h.cell]; rfl)
/-- Three states (of the texts m) and three slices (of the texts k); all their blocks lie below N. -/
structure ScS (w : World) (gs gm : Nat) (P : Nat → Nat) (m k : Nat → List UInt8) (V : Nat → Value) (N : Nat) (wr : World) : Prop where
  below : Below w.heap.size w wr
  n0 : w.heap.size ≤ N
  n1 : N ≤ wr.heap.size
  bs : Blk wr gs 106 (ptr3 P)
  bm : Blk wr gm 107 (val3 V)
  gs0 : w.heap.size ≤ gs ∧ gs < N
  gm0 : w.heap.size ≤ gm ∧ gm < N
  st : ∀ i, i < 3 → St wr (P i) (m i)
  p0 : ∀ i, i < 3 → w.heap.size ≤ P i ∧ P i < N
  nd : ∀ i j, i < 3 → j < 3 → P i = P j → i = j
  ow : ∀ i, i < 3 → OwnB wr w.heap.size 5 (V i) (k i)
  v0 : ∀ i, i < 3 → ∀ b, (V i).ownBlock = some b → b < N
section
variable {w wr w' : World} {gs gm N : Nat} {P : Nat → Nat} {m k : Nat → List UInt8} {V : Nat → Value}
theorem below_fx {B : Nat} {S : Nat → Prop} {w a b : World} (h : Below B w a) (f : Fr S a b) (hB : B ≤ a.heap.size) (hS : ∀ k, S k → B ≤ k) : Below B w b :=
  ⟨f.os.trans h.os, f.tape.trans h.tape, f.output.trans h.output, Nat.le_trans h.size f.size, fun k hk => (f.block k (by omega) (fun s => by have := hS k s; omega)).trans (h.block k hk)⟩
theorem St.blk {g : Nat} {x : List UInt8} (h : St w g x) : ∃ cs, Blk w g 128 cs := by
  obtain ⟨b, _, hb⟩ := h; exact ⟨_, hb⟩
theorem OwnB.blk {base E g : Nat} {v : Value} {l : List UInt8} (h : OwnB w base E v l) (hg : v.ownBlock = some g) : ∃ cs, Blk w g E cs := by
  rcases h with ⟨rfl, _⟩ | ⟨g', sp, rfl, _, _, hb⟩
  · simp [Value.ownBlock] at hg
  · simp [Value.ownBlock] at hg; subst hg; exact ⟨_, hb⟩
theorem ScS.fr {T : Nat → Prop} (h : ScS w gs gm P m k V N wr) (f : Fr T wr w') (hT : ∀ b, T b → N ≤ b) : ScS w gs gm P m k V N w' := by
  refine ⟨below_fx h.below f (Nat.le_trans h.n0 h.n1) (fun b t => Nat.le_trans h.n0 (hT b t)), h.n0, Nat.le_trans h.n1 f.size, h.bs.fr f ?_, h.bm.fr f ?_, h.gs0, h.gm0, fun i hi => (h.st i hi).fr f ?_, h.p0, h.nd, fun i hi => (h.ow i hi).fr f ?_, h.v0⟩
  · intro t; have := hT _ t; have := h.gs0; omega
  · intro t; have := hT _ t; have := h.gm0; omega
  · intro t; have := hT _ t; have := h.p0 i hi; omega
  · intro b hb t; have := hT _ t; have := h.v0 i hi b hb; omega
theorem ScS.next (h : ScS w gs gm P m k V N wr) (hb : Below wr.heap.size wr w') : ScS w gs gm P m k V N w' := h.fr (T := fun _ => False) (Fr.of_below hb) (fun _ f => f.elim)
theorem ScS.up (h : ScS w gs gm P m k V N wr) : ScS w gs gm P m k V wr.heap.size wr := by
  have h1 := h.n1
  exact ⟨h.below, Nat.le_trans h.n0 h1, Nat.le_refl _, h.bs, h.bm, ⟨h.gs0.1, Nat.lt_of_lt_of_le h.gs0.2 h1⟩, ⟨h.gm0.1, Nat.lt_of_lt_of_le h.gm0.2 h1⟩, h.st, fun i hi => ⟨(h.p0 i hi).1, Nat.lt_of_lt_of_le (h.p0 i hi).2 h1⟩, h.nd, h.ow, fun i hi b hb => Nat.lt_of_lt_of_le (h.v0 i hi b hb) h1⟩
/-- A state is written to. -/
theorem ScS.write (h : ScS w gs gm P m k V N wr) (on : Nat) (ho : on < 3) (x : List UInt8) (f : Fr (· = P on) wr w') (s : St w' (P on) (m on ++ x)) : ScS w gs gm P (upd m on (m on ++ x)) k V N w' := by
  obtain ⟨cs, hp⟩ := (h.st on ho).blk
  refine ⟨below_fx h.below f (Nat.le_trans h.n0 h.n1) (fun b t => by rw [show b = P on from t]; exact (h.p0 on ho).1), h.n0, Nat.le_trans h.n1 f.size, h.bs.fr f (h.bs.ne hp (by decide)), h.bm.fr f (h.bm.ne hp (by decide)), h.gs0, h.gm0, fun i hi => ?_, h.p0, h.nd, fun i hi => (h.ow i hi).fr f ?_, h.v0⟩
  · by_cases e : i = on
    · subst e; rw [upd_at]; exact s
    · rw [upd_ne _ _ _ _ e]
      exact (h.st i hi).fr f (fun t => e (h.nd i on hi ho t))
  · intro b hb
    obtain ⟨cs', hv⟩ := (h.ow i hi).blk hb
    exact hv.ne hp (by decide)
/-- A text's slice is put. -/
theorem ScS.put (h : ScS w gs gm P m k V N wr) (on : Nat) (ho : on < 3) (x : List UInt8) (v : Value) (o : OwnB wr w.heap.size 5 v x) : ScS w gs gm P m (upd k on x) (upd V on v) wr.heap.size (wr.setCell ⟨gm, on, none⟩ v) := by
  have h := h.up
  have f : Fr (· = gm) wr (wr.setCell ⟨gm, on, none⟩ v) := Fr.setCell (p := ⟨gm, on, none⟩) (Fr.refl (· = gm) wr) (.inl rfl) _
  have e : (wr.setCell ⟨gm, on, none⟩ v).heap.size = wr.heap.size := by simp [World.setCell]
  have hw := h.bm.set_ on v
  rw [val3_set V on v ho] at hw
  have far : ∀ {v' : Value} {x' : List UInt8}, OwnB wr w.heap.size 5 v' x' → ∀ b, v'.ownBlock = some b → b ≠ gm := by
    intro v' x' o' b hb
    obtain ⟨cs', hv⟩ := o'.blk hb
    exact hv.ne h.bm (by decide)
  refine ⟨below_fx h.below f h.n0 (fun b t => by rw [show b = gm from t]; exact h.gm0.1), h.n0, by rw [e]; exact Nat.le_refl _, h.bs.fr f (h.bs.ne h.bm (by decide)), hw, h.gs0, h.gm0, fun i hi => (h.st i hi).fr f ?_, h.p0, h.nd, fun i hi => ?_, fun i hi => ?_⟩
  · obtain ⟨cs, hp⟩ := (h.st i hi).blk
    exact hp.ne h.bm (by decide)
  · by_cases q : i = on
    · subst q; rw [upd_at, upd_at]; exact o.fr f (far o)
    · rw [upd_ne _ _ _ _ q, upd_ne _ _ _ _ q]; exact (h.ow i hi).fr f (far (h.ow i hi))
  · intro b hb
    by_cases q : i = on
    · subst q; rw [upd_at] at hb; exact (o.lt b hb).2
    · rw [upd_ne _ _ _ _ q] at hb; exact h.v0 i hi b hb
/-- A state's pointer is put. -/
theorem ScS.point (h : ScS w gs gm P m k V N wr) (tq : Nat) (ht : tq < 3) (q : Nat) (x : List UInt8) (hq : N ≤ q) (s : St wr q x) : ScS w gs gm (upd P tq q) (upd m tq x) k V wr.heap.size (wr.setCell ⟨gs, tq, none⟩ (.pointer (some ⟨q, 0, none⟩))) := by
  have hf : ∀ i, i < 3 → P i ≠ q := fun i hi e => by have := (h.p0 i hi).2; omega
  have hq0 : w.heap.size ≤ q := Nat.le_trans h.n0 hq
  have h := h.up
  have f : Fr (· = gs) wr (wr.setCell ⟨gs, tq, none⟩ (.pointer (some ⟨q, 0, none⟩))) := Fr.setCell (p := ⟨gs, tq, none⟩) (Fr.refl (· = gs) wr) (.inl rfl) _
  have e : (wr.setCell ⟨gs, tq, none⟩ (.pointer (some ⟨q, 0, none⟩))).heap.size = wr.heap.size := by simp [World.setCell]
  have hw := h.bs.set_ tq (.pointer (some ⟨q, 0, none⟩))
  rw [ptr3_set P tq q ht] at hw
  obtain ⟨cq, hbq⟩ := s.blk
  refine ⟨below_fx h.below f h.n0 (fun b t => by rw [show b = gs from t]; exact h.gs0.1), h.n0, by rw [e]; exact Nat.le_refl _, hw, h.bm.fr f (h.bm.ne h.bs (by decide)), h.gs0, h.gm0, fun i hi => ?_, fun i hi => ?_, fun i j hi hj => ?_, fun i hi => (h.ow i hi).fr f ?_, h.v0⟩
  · by_cases c : i = tq
    · subst c; rw [upd_at, upd_at]; exact s.fr f (hbq.ne h.bs (by decide))
    · rw [upd_ne _ _ _ _ c, upd_ne _ _ _ _ c]
      obtain ⟨cs, hp⟩ := (h.st i hi).blk
      exact (h.st i hi).fr f (hp.ne h.bs (by decide))
  · by_cases c : i = tq
    · subst c; rw [upd_at]; exact ⟨hq0, s.lt⟩
    · rw [upd_ne _ _ _ _ c]; exact h.p0 i hi
  · by_cases c : i = tq <;> by_cases d : j = tq
    · intro _; omega
    · subst c; rw [upd_at, upd_ne _ _ _ _ d]; intro z; exact absurd z.symm (hf j hj)
    · subst d; rw [upd_at, upd_ne _ _ _ _ c]; intro z; exact absurd z (hf i hi)
    · rw [upd_ne _ _ _ _ c, upd_ne _ _ _ _ d]; exact h.nd i j hi hj
  · intro b hb
    obtain ⟨cs', hv⟩ := (h.ow i hi).blk hb
    exact hv.ne h.bs (by decide)
end
theorem at109 : AT Try.prog 109 4 := ⟨⟨_, Try.underlying109, rfl⟩, by kernel_rfl⟩
theorem at106 : AT Try.prog 106 3 := ⟨⟨_, Try.underlying106, rfl⟩, by kernel_rfl⟩
theorem ia106 : IA Try.prog 106 3 := ⟨⟨_, Try.underlying106, by kernel_rfl⟩⟩
theorem ia107 : IA Try.prog 107 3 := ⟨⟨_, Try.underlying107, by kernel_rfl⟩⟩
theorem sz109 : (Try.prog.info? 109).map (·.size) = some 4 := by kernel_rfl
theorem one24 : (Try.prog.info? 24).map (·.size) = some 1 := by kernel_rfl
theorem one104 : (Try.prog.info? 104).map (·.size) = some 1 := by kernel_rfl
theorem w104 : ∃ d, Try.prog.underlying 104 = some d ∧ d.isRow = false := ⟨_, Try.underlying104, rfl⟩
section
variable {w : World} {a : Act} {o : Oper}
theorem exec_load104 (x : Operand) (ho : o.op = .load 104 x) (ad : Addr) (v : Value) (hx : a.eval x = .pointer (some ad)) (hc : w.cell? ad = some v) : (execOp a.eval o).run Try.prog w = .ok (.value v) w := by
  obtain ⟨d, hu, hd⟩ := w104
  exact exec_load_one hu hd x ho ad v hx hc
theorem exec_load5 (x : Operand) (ho : o.op = .load 5 x) (ad : Addr) (v : Value) (hx : a.eval x = .pointer (some ad)) (hc : w.cell? ad = some v) : (execOp a.eval o).run Try.prog w = .ok (.value v) w := by
  obtain ⟨d, hu, hd⟩ := w5
  exact exec_load_one hu hd x ho ad v hx hc
theorem exec_q0 (x : Operand) (ho : o.op = .fieldAddr 109 x 0) (g : Nat) (hx : a.eval x = .pointer (some ⟨g, 0, none⟩)) : (execOp a.eval o).run Try.prog w = .ok (.value (.pointer (some ⟨g, 0, none⟩))) w := by
  unfold execOp
  simp only [ho, hx]
  go_simp
theorem exec_q1 (x : Operand) (ho : o.op = .fieldAddr 109 x 1) (g : Nat) (hx : a.eval x = .pointer (some ⟨g, 0, none⟩)) : (execOp a.eval o).run Try.prog w = .ok (.value (.pointer (some ⟨g, 1, none⟩))) w := by
  unfold execOp
  simp only [ho, hx]
  go_simp
theorem exec_q2 (x : Operand) (ho : o.op = .fieldAddr 109 x 2) (g : Nat) (hx : a.eval x = .pointer (some ⟨g, 0, none⟩)) : (execOp a.eval o).run Try.prog w = .ok (.value (.pointer (some ⟨g, 2, none⟩))) w := by
  unfold execOp
  simp only [ho, hx]
  go_simp
theorem exec_q3 (x : Operand) (ho : o.op = .fieldAddr 109 x 3) (g : Nat) (hx : a.eval x = .pointer (some ⟨g, 0, none⟩)) : (execOp a.eval o).run Try.prog w = .ok (.value (.pointer (some ⟨g, 3, none⟩))) w := by
  unfold execOp
  simp only [ho, hx]
  go_simp
theorem exec_rem3 (x y : Operand) (ho : o.op = .binOp .rem 5 x y 5) (n r : Nat) (hx : a.eval x = .int .u8 (n : Int)) (hy : a.eval y = .int .u8 3) (hn : n < 256) (hr : n % 3 = r) : (execOp a.eval o).run Try.prog w = .ok (.value (.int .u8 (r : Int))) w := by
  subst hr
  unfold execOp
  simp only [ho, hx, hy]
  go_simp
  exact Int.tmod_eq_emod_of_nonneg (by omega)
end
theorem exec_ptr_ne {w : World} {a : Act} {o : Oper} (x y : Operand) (ho : o.op = .binOp .eql 104 x y 104) (p q : Nat) (hx : a.eval x = .pointer (some ⟨p, 0, none⟩)) (hy : a.eval y = .pointer (some ⟨q, 0, none⟩)) (hne : p ≠ q) (hp : ∃ cs, Blk w p 128 cs) (hq : ∃ cs, Blk w q 128 cs) :
    (execOp a.eval o).run Try.prog w = .ok (.value (.bool false)) w := by
  obtain ⟨cs, hp⟩ := hp
  obtain ⟨ds, hq⟩ := hq
  have hi := at128.i
  cases hj : Try.prog.info? 128 with
  | none => rw [hj] at hi; cases hi
  | some j =>
    rw [hj] at hi
    have hs : j.size = 75 := by simpa using hi
    have h := run_eql_ptr_other (P := Try.prog) w (tp := 104) (te := 128) (a := ⟨p, 0, none⟩) (b := ⟨q, 0, none⟩) Try.underlying104 hj (by omega) (fun e => hne (by injection e)) hp hq
    unfold execOp
    simp only [ho, hx, hy]
    go_simp
theorem SAct.cells4 {w : World} {g : Nat} (a : SAct) (hb : Blk w g 109 a.cs) : w.cell? ⟨g, 0, none⟩ = some (.int .u8 (a.k.toNat : Int)) ∧ w.cell? ⟨g, 1, none⟩ = some (.int .u8 (a.on.toNat : Int)) ∧ w.cell? ⟨g, 2, none⟩ = some (.int .u8 (a.tq.toNat : Int)) ∧ w.cell? ⟨g, 3, none⟩ = some (.slice a.A a.n a.c) := by
  refine ⟨?_, ?_, ?_, ?_⟩ <;> (rw [hb.cell]; rfl)
end Go.Proofs.Ytehbahobkgoapaa
namespace Go.Proofs.Ytehbahobkgoapaa
open Go Go.RowKit
set_option linter.unusedSimpArgs false
set_option linter.unusedVariables false
theorem exec_siaz {P : Program} {w : World} {a : Act} {o : Oper} {t e : TypeId} {z : Nat} (hu : P.underlying t = some (.slice e)) (hz : (P.info? e).map (·.size) = some z) (x y : Operand) (ho : o.op = .indexAddr t x y) (ad : Addr) (n c i : Nat) (k : IntKind) (hx : a.eval x = .slice (some ad) n c) (hy : a.eval y = .int k (i : Int)) (hi : i < n) :
    (execOp a.eval o).run P w = .ok (.value (.pointer (some (ad.add (i * z))))) w := by
  have he : P.elem t = e := by simp [Program.elem, hu]
  have hs : (sizeOf e).run P w = .ok z w := by
    cases hq : P.info? e with
    | none => simp [hq] at hz
    | some j =>
      simp [hq] at hz
      simp [sizeOf, typeInfo, hq, hz]
  have hr := run_indexAt_slice (P := P) w t ad n c k (i : Int) (by rw [he]; exact hu)
  rw [he, if_pos (by omega), hs] at hr
  simp only [Result.andThen_ok, Int.toNat_natCast] at hr
  unfold execOp
  simp only [ho, hx, hy, Sem.run_bind, hr, Result.andThen_ok, Sem.run_pure]
end Go.Proofs.Ytehbahobkgoapaa
namespace Go.Proofs.Ytehbahobkgoapaa
open Go Go.RowKit
set_option linter.unusedSimpArgs false
set_option linter.unusedVariables false
theorem _root_.Go.RowKit.Below.then {a b c : World} (h : Below a.heap.size a b) (k : Below b.heap.size b c) : Below a.heap.size a c := h.trans (k.mono h.size)
end Go.Proofs.Ytehbahobkgoapaa
namespace Go.Proofs.Ytehbahobkgoapaa
open Go Go.RowKit
set_option linter.unusedSimpArgs false
set_option linter.unusedVariables false
theorem lentAll_len2 (l : List UInt8) : (lentAll l).length = l.length + 5 := by simp [lentAll]
theorem lent_rd6 {w : World} {g : Nat} {l : List UInt8} (h : Blk w g 5 (bvs (lentAll l))) : Rd w (some ⟨g, 0, none⟩) (bvs (lentAll l)) := Rd.of_blk0 (es := []) (by simpa using h)
theorem Blk.keep {w w' : World} {g t base : Nat} {cs : List Value} {v : Value} {l : List UInt8} (hb : Blk w g t cs) (o : OwnB w base 5 v l) (hg : w.grownBy w' v.ownBlock) (ht : t ≠ 5) : Blk w' g t cs := by
  have f : Fr (fun b => v.ownBlock = some b) w w' := (Fr.refl _ _).grown hg (fun g e => .inl e)
  refine hb.fr f (fun e => ?_)
  obtain ⟨cs', h'⟩ := o.blk e
  exact h'.ne hb (Ne.symm ht) rfl
def p3 (a b c : Nat) : Nat → Nat := fun i => if i = 0 then a else if i = 1 then b else c
theorem scs_start {w w1 w2 w3 w4 : World} {p0 p1 p2 gs : Nat} (V1 : Below w.heap.size w w1) (q0 : w.heap.size ≤ p0) (s0 : St w1 p0 []) (V2 : Below w1.heap.size w1 w2) (q1 : w1.heap.size ≤ p1) (s1 : St w2 p1 []) (V3 : Below w2.heap.size w2 w3) (q2 : w2.heap.size ≤ p2) (s2 : St w3 p2 [])
    (b4 : Blk w4 gs 106 (ptr3 (p3 p0 p1 p2))) (hgs : gs = w3.heap.size) (V4 : Below w3.heap.size w3 w4) :
    ScS w gs w4.heap.size (p3 p0 p1 p2) (fun _ => []) (fun _ => []) (fun _ => .slice none 0 0) (w4.heap.size + 1) (w4.alloc (.cells #[.slice none 0 0, .slice none 0 0, .slice none 0 0] 107)) := by
  have z1 := V1.size
  have z2 := V2.size
  have z3 := V3.size
  have z4 := V4.size
  have l0 := s0.lt
  have l1 := s1.lt
  have l2 := s2.lt
  have B4 : Below w.heap.size w w4 := bthen (bthen (bthen V1 V2 z1) V3 (by omega)) V4 (by omega)
  have t0 := ((s0.below V2).below V3).below V4
  have t1 := (s1.below V3).below V4
  have t2 := s2.below V4
  have A4 : Below w4.heap.size w4 (w4.alloc (.cells #[.slice none 0 0, .slice none 0 0, .slice none 0 0] 107)) := (Below.refl _ _).alloc (Nat.le_refl _) _
  have hb : Blk (w4.alloc (.cells #[.slice none 0 0, .slice none 0 0, .slice none 0 0] 107)) w4.heap.size 107 (val3 (fun _ => .slice none 0 0)) := Blk.new w4 107 [.slice none 0 0, .slice none 0 0, .slice none 0 0]
  have c3 : ∀ i, i < 3 → i = 0 ∨ i = 1 ∨ i = 2 := fun i hi => by omega
  refine ⟨bthen B4 A4 B4.size, by omega, by simp, b4.below A4 b4.lt, hb, by omega, by omega, ?_, ?_, ?_, fun i hi => OwnB.nil _ _ _, fun i hi b e => by cases e⟩
  · intro i hi
    rcases c3 i hi with rfl | rfl | rfl
    · exact t0.below A4
    · exact t1.below A4
    · exact t2.below A4
  · intro i hi
    rcases c3 i hi with rfl | rfl | rfl <;> (simp only [p3]; simp; omega)
  · intro i j hi hj
    rcases c3 i hi with rfl | rfl | rfl <;> rcases c3 j hj with rfl | rfl | rfl <;> (simp only [p3]; simp <;> omega)
def capS (xs : List SAct) (j : Nat) : Nat := ((xs.take j).map (·.c)).sum
theorem capS_succ (xs : List SAct) (j : Nat) (h : j < xs.length) : capS xs (j + 1) = capS xs j + xs[j].c := by
  unfold capS
  rw [List.take_succ_eq_append_getElem h, List.map_append, List.sum_append]
  simp only [List.map_cons, List.map_nil, List.sum_cons, List.sum_nil, Nat.add_zero]
theorem capS_le (xs : List SAct) (j : Nat) : capS xs j ≤ (xs.map (·.c)).sum := by
  unfold capS
  have h := List.take_append_drop j xs
  have e : (xs.map (·.c)).sum = ((xs.take j).map (·.c)).sum + ((xs.drop j).map (·.c)).sum := by
    rw [← List.sum_append, ← List.map_append, h]
  omega
/-- Between two calls of the script. -/
def RelS (w : World) (gs gm t : Nat) (wr : World) : Prop := ∃ P m V N, ScS w gs gm P m m V N wr ∧ ∀ i, i < 3 → (m i).length ≤ t
theorem RelS.same {w wr w' : World} {gs gm t t' N : Nat} {P : Nat → Nat} {m : Nat → List UInt8} {V : Nat → Value} (h : ScS w gs gm P m m V N wr) (hl : ∀ i, i < 3 → (m i).length ≤ t) (hb : Below wr.heap.size wr w') (ht : t ≤ t') : RelS w gs gm t' w' :=
  ⟨P, m, V, N, h.next hb, fun i hi => Nat.le_trans (hl i hi) ht⟩
theorem upd_len {m : Nat → List UInt8} {t t' : Nat} {x : List UInt8} (on : Nat) (hl : ∀ i, i < 3 → (m i).length ≤ t) (hx : x.length ≤ t') (ht : t ≤ t') : ∀ i, i < 3 → (upd m on x i).length ≤ t' := by
  intro i hi
  unfold upd
  split
  · exact hx
  · exact Nat.le_trans (hl i hi) ht
theorem lent_lft {w : World} {g p n : Nat} {l : List UInt8} (h : Blk w g 5 (bvs (lentAll l))) (hl : l.length = n) (hn : n ≤ 1048576) (hp : g ≠ p) : Lft (· = p) w (some ⟨g, 0, none⟩) n (n + 5) l := by
  refine ⟨hl, by omega, by unfold maxLen; omega, lent_rd0 h, ?_⟩
  intro ad e t
  cases e
  exact hp t
theorem over_lent (gl n : Nat) (l : List UInt8) (w : World) (hb : Blk w gl 5 (bvs (lentAll l))) (hl : l.length = n) (hn : n ≤ 1048576) :
    Calls Try.prog 42 #[.slice (some ⟨gl, 0, none⟩) n (n + 5)] w fun e w' => e = .returned (.tuple #[]) ∧ Fr (· = gl) w w' := by
  have h := over_bytes gl n (lentAll l) w hb (by rw [lentAll_len2, hl]; omega) (by rw [lentAll_len2, hl]; unfold maxLen; omega)
  rw [lentAll_len2, hl] at h
  refine h.mono ?_
  rintro e w' ⟨rfl, _, h2, _⟩
  exact ⟨rfl, (Fr.refl _ _).grown h2 (by intro k hk; cases hk; exact .inl rfl)⟩
theorem own_empty (w : World) {base : Nat} (hb : base ≤ w.heap.size) : OwnB (w.alloc (.cells #[] 5)) base 5 (.slice (some ⟨w.heap.size, 0, none⟩) 0 0) [] :=
  .inr ⟨w.heap.size, [], rfl, hb, by unfold maxLen; simp, Blk.new w 5 []⟩
theorem own_cell {w : World} {base : Nat} {v : Value} {l : List UInt8} (h : OwnB w base 5 v l) : v.oneCell' = true := by
  obtain ⟨A, n, c, rfl⟩ := h.shape
  rfl
set_option maxRecDepth 100000 in
set_option maxHeartbeats 8000000 in
theorem sha_script (A : Option Addr) (n c : Nat) (xs : List SAct) (w : World) (h : SActs w A n xs) (hb : (xs.map (·.c)).sum ≤ 1048576) : Calls Try.prog 13 #[.slice A n c] w fun e w' => e = .returned (.bool true) ∧ Below w.heap.size w w' := by
  have hmax := h.max
  have HN := Lib.hid h.len
  have NW := fun u => Lib.hid (new_state u)
  have z106 : ∀ u : World, Hid (Blk (u.alloc (.cells #[.pointer none, .pointer none, .pointer none] 106)) u.heap.size 106 [.pointer none, .pointer none, .pointer none]) := fun u => Lib.hid (Blk.new u 106 [.pointer none, .pointer none, .pointer none])
  have z109 : ∀ u : World, Hid (Blk (u.alloc (.cells #[.int .u8 0, .int .u8 0, .int .u8 0, .slice none 0 0] 109)) u.heap.size 109 [.int .u8 0, .int .u8 0, .int .u8 0, .slice none 0 0]) := fun u => Lib.hid (Blk.new u 109 [.int .u8 0, .int .u8 0, .int .u8 0, .slice none 0 0])
  have CL := fun j => Lib.hid (capS_le xs j)
  have HB := Lib.hid hb
  clear hb
  go_enter Try.func13, Try.ntmps13
  go_upto_region 1 with fail
  refine wp_region_lit ?_
  refine wpList_plain rfl fun K hK => ?_; go_simp
  with_reducible refine (NW _).out.mono ?_
  rintro e1 w1 ⟨p0, rfl, q0, s0, V1⟩
  refine hK _ _ ?_; clear hK
  (try simp only [Act.put, List.setIfInBounds_toArray, List.set_cons_zero, List.set_cons_succ])
  refine wpList_plain rfl fun K hK => ?_; go_simp
  with_reducible refine (NW _).out.mono ?_
  rintro e1 w2 ⟨p1, rfl, q1, s1, V2⟩
  refine hK _ _ ?_; clear hK
  (try simp only [Act.put, List.setIfInBounds_toArray, List.set_cons_zero, List.set_cons_succ])
  refine wpList_plain rfl fun K hK => ?_; go_simp
  with_reducible refine (NW _).out.mono ?_
  rintro e1 w3 ⟨p2, rfl, q2, s2, V3⟩
  refine hK _ _ ?_; clear hK
  (try simp only [Act.put, List.setIfInBounds_toArray, List.set_cons_zero, List.set_cons_succ])
  refine wpList_yield rfl _ (exec_build _ rfl (ptr3 (p3 p0 p1 p2)).toArray (by kernel_rfl)) ?_
  simp only [Act.put, List.setIfInBounds_toArray, List.set_cons_zero, List.set_cons_succ]
  refine wpList_plain rfl fun K hK => ?_; go_simp
  refine hK _ _ ?_; clear hK
  (try simp only [Act.put, List.setIfInBounds_toArray, List.set_cons_zero, List.set_cons_succ])
  refine wpList_store_at at106.i rfl (.tmp 3) (.tmp 15) rfl w3.heap.size 0 106 [.pointer none, .pointer none, .pointer none] (ptr3 (p3 p0 p1 p2)) rfl rfl (z106 w3).out rfl (Nat.le_refl 3) (by simp [ptr3, Value.oneCell']) ?_
  intro w4 b4 g4 s4
  (try simp only [Act.put, List.setIfInBounds_toArray, List.set_cons_zero, List.set_cons_succ])
  refine wpList_nil ?_
  rw [splice_all _ _ (by rfl)] at b4
  have V4 : Below w3.heap.size w3 w4 := ((Below.refl w3.heap.size w3).alloc (Nat.le_refl _) (.cells #[.pointer none, .pointer none, .pointer none] 106)).grown g4 (by simp) (by intro k hk; cases hk; exact Nat.le_refl _)
  have S5 := scs_start V1 q0 s0 V2 q1 s1 V3 q2 s2 b4 rfl V4
  clear V1 q0 s0 V2 q1 s1 V3 q2 s2 b4 V4 g4 s4 NW z106
  generalize w3.heap.size = gs at *
  go_upto_region 3 with fail
  generalize hW : World.alloc w4 _ = w5 at *
  have S6 := S5
  clear S5 hW
  generalize w4.heap.size = gm at *
  refine wp_region_lit ?_
  refine wpList_yield rfl _ (exec_ia0 ia106 _ _ rfl gs 0 _ rfl rfl (by decide)) ?_
  simp only [Act.put, List.setIfInBounds_toArray, List.set_cons_zero, List.set_cons_succ]
  refine wpList_yield rfl _ (exec_load104 _ rfl _ _ rfl (ptr3_cell S6.bs 0 (by omega))) ?_
  simp only [Act.put, List.setIfInBounds_toArray, List.set_cons_zero, List.set_cons_succ]
  refine wpList_yield rfl ?vp1_2 ?yp1_2 ?_
  case yp1_2 => go_simp; try with_reducible rfl
  simp only [Act.put, List.setIfInBounds_toArray, List.set_cons_zero, List.set_cons_succ]
  refine wpList_yield rfl _ (exec_move _ rfl) ?_
  simp only [Act.put, Act.eval, Array.getD_eq_getD_getElem?, List.getElem?_toArray, List.getElem?_cons_succ, List.getElem?_cons_zero, Option.getD_some, List.setIfInBounds_toArray, List.set_cons_zero, List.set_cons_succ]
  refine wpList_yield_w rfl _ (exec_ia0 ia106 _ _ rfl gs 1 _ rfl rfl (by decide)) ?_
  simp only [Act.put, List.setIfInBounds_toArray, List.set_cons_zero, List.set_cons_succ]
  refine wpList_yield_w rfl _ (exec_load104 _ rfl _ _ rfl (ptr3_cell S6.bs 1 (by omega))) ?_
  simp only [Act.put, List.setIfInBounds_toArray, List.set_cons_zero, List.set_cons_succ]
  refine wpList_yield_w rfl ?vp2_6 ?yp2_6 ?_
  case yp2_6 => go_simp; try with_reducible rfl
  simp only [Act.put, List.setIfInBounds_toArray, List.set_cons_zero, List.set_cons_succ]
  refine wpList_yield rfl ?vp3_7 ?yp3_7 ?_
  case yp3_7 => go_simp; try with_reducible rfl
  simp only [Act.put, List.setIfInBounds_toArray, List.set_cons_zero, List.set_cons_succ]
  refine wpList_yield rfl _ (exec_move _ rfl) ?_
  simp only [Act.put, Act.eval, Array.getD_eq_getD_getElem?, List.getElem?_toArray, List.getElem?_cons_succ, List.getElem?_cons_zero, Option.getD_some, List.setIfInBounds_toArray, List.set_cons_zero, List.set_cons_succ]
  refine wpList_yield_w rfl _ (exec_ia0 ia106 _ _ rfl gs 2 _ rfl rfl (by decide)) ?_
  simp only [Act.put, List.setIfInBounds_toArray, List.set_cons_zero, List.set_cons_succ]
  refine wpList_yield_w rfl _ (exec_load104 _ rfl _ _ rfl (ptr3_cell S6.bs 2 (by omega))) ?_
  simp only [Act.put, List.setIfInBounds_toArray, List.set_cons_zero, List.set_cons_succ]
  refine wpList_yield_w rfl ?vp4_11 ?yp4_11 ?_
  case yp4_11 => go_simp; try with_reducible rfl
  simp only [Act.put, List.setIfInBounds_toArray, List.set_cons_zero, List.set_cons_succ]
  refine wpList_yield rfl ?vp5_12 ?yp5_12 ?_
  case yp5_12 => go_simp; try with_reducible rfl
  simp only [Act.put, List.setIfInBounds_toArray, List.set_cons_zero, List.set_cons_succ]
  refine wpList_nil ?_
  have hR : RelS w gs gm (capS xs 0) w5 := ⟨_, _, _, _, S6, fun i hi => by simp⟩
  clear S6
  go_upto_region 5 with fail
  go_wp2_with fail
  go_loopw [5] (fun i wr => ∃ j : Nat, j ≤ n ∧ i = .int .i64 (j : Int) ∧ RelS w gs gm (capS xs j) wr) (fun i _ => n - (intOf i).toNat)
  case atStart => exact ⟨0, by omega, by go_num, hR⟩
  case round =>
    clear hR
    obtain ⟨j, hj, rfl, P, m, V, N, S1, hlen⟩ := hrel
    by_cases hlt : j < n
    · have hltz : (j : Int) < (n : Int) := by omega
      obtain ⟨x, ad, rfl, hrd, hok, hcap⟩ : ∃ x ad, A = some ad ∧ Rd wr (some (ad.add (j * 4))) (SAct.cs x) ∧ x.Ok w ∧ capS xs (j + 1) = capS xs j + x.c := by
        have hjl : j < xs.length := by rw [HN.out]; exact hlt
        obtain ⟨ad, e, hrd⟩ := (h.below S1.below).at_ j hjl
        exact ⟨_, ad, e, hrd, h.ok _ (List.getElem_mem _), capS_succ xs j hjl⟩
      have hc1 := (CL (j + 1)).out
      have hxl := Lib.hid hok.len
      have hxc := hok.cap
      have r0 := hok.rd
      have HC := fun (u : World) (g : Nat) (q : Blk u g 109 x.cs) => Lib.hid (x.cells4 q)
      have h1c : ∀ u ∈ x.cs, u.oneCell' = true := by simp [SAct.cs, bv, Value.oneCell']
      have h4 : Hid (x.cs.length = 4) := Lib.hid rfl
      obtain ⟨on, hone, hon⟩ : ∃ on, x.on.toNat % 3 = on ∧ on < 3 := ⟨_, rfl, Nat.mod_lt _ (by omega)⟩
      obtain ⟨tq, htqe, htq⟩ : ∃ tq, x.tq.toNat % 3 = tq ∧ tq < 3 := ⟨_, rfl, Nat.mod_lt _ (by omega)⟩
      have HON := Lib.hid hone
      have HTQ := Lib.hid htqe
      clear hone htqe
      have hon8 : x.on.toNat < 256 := x.on.toNat_lt
      have hto8 : x.tq.toNat < 256 := x.tq.toNat_lt
      clear hok
      have HBt := HB.out
      have hml : (capS xs (j + 1)) ≤ 1048576 := Nat.le_trans hc1 HBt
      clear hc1 HBt
      generalize htt : capS xs (j + 1) = t' at *
      have HT := Lib.hid htt
      clear htt
      generalize capS xs j = t at *
      generalize x.cs = cs at *
      generalize x.l = l at *
      generalize x.A = xA at *
      generalize x.n = xn at *
      generalize x.c = xc at *
      have hxn : xn ≤ 1048576 := by omega
      go_upto_region 8 with fail
      refine wp_region_lit ?_
      refine wpList_yield rfl _ (exec_move _ rfl) ?_
      simp only [Act.put, Act.eval, Array.getD_eq_getD_getElem?, List.getElem?_toArray, List.getElem?_cons_succ, List.getElem?_cons_zero, Option.getD_some, List.setIfInBounds_toArray, List.set_cons_zero, List.set_cons_succ]
      refine wpList_yield rfl _ (exec_move _ rfl) ?_
      simp only [Act.put, Act.eval, Array.getD_eq_getD_getElem?, List.getElem?_toArray, List.getElem?_cons_succ, List.getElem?_cons_zero, Option.getD_some, List.setIfInBounds_toArray, List.set_cons_zero, List.set_cons_succ]
      refine wpList_yield rfl _ (exec_siaz Try.underlying103 sz109 _ _ rfl ad n c j _ rfl rfl hlt) ?_
      simp only [Act.put, List.setIfInBounds_toArray, List.set_cons_zero, List.set_cons_succ]
      refine wpList_yield rfl _ (exec_load_rd at109 _ rfl _ cs rfl hrd (by omega) h4.out) ?_
      simp only [Act.put, List.setIfInBounds_toArray, List.set_cons_zero, List.set_cons_succ]
      refine wpList_plain rfl fun K hK => ?_; go_simp
      refine hK _ _ ?_; clear hK
      (try simp only [Act.put, List.setIfInBounds_toArray, List.set_cons_zero, List.set_cons_succ])
      refine wpList_store_at at109.i rfl (.tmp 6) (.tmp 38) rfl wr.heap.size 0 109 [.int .u8 0, .int .u8 0, .int .u8 0, .slice none 0 0] cs rfl rfl (z109 wr).out h4.out (Nat.le_refl 4) h1c ?_
      intro w2 b2 g2 s2
      (try simp only [Act.put, List.setIfInBounds_toArray, List.set_cons_zero, List.set_cons_succ])
      refine wpList_nil ?_
      rw [splice_all _ _ (by rw [h4.out]; rfl)] at b2
      have V2 : Below wr.heap.size wr w2 := ((Below.refl wr.heap.size wr).alloc (Nat.le_refl _) (.cells #[.int .u8 0, .int .u8 0, .int .u8 0, .slice none 0 0] 109)).grown g2 (by simp) (by intro k hk; cases hk; exact Nat.le_refl _)
      have S2 := S1.next V2
      have hga := S1.n1
      clear g2 s2 V2 S1 hrd h1c h4
      generalize wr.heap.size = ga at *
      go_upto_region 9 with fail
      refine rg_begin (fun W => Blk W ga 109 cs) [] [] [0, 1, 2, 3, 4, 5, 6, 7] 0 mixed (by kernel_rfl) (fun _ _ _ _ e hh => ⟨e.symm.trans hh.1, hh.2⟩) ?_
      simp only [pick, List.map_cons, List.map_nil, List.getD_cons_zero, List.getD_cons_succ]
      have hS : (fun W => Blk W ga 109 cs) _ := b2.drew
      refine rg_take rfl rfl hS (fun W hW => exec_q1 _ rfl ga rfl) ?_
      simp only [Act.put, List.setIfInBounds_toArray, List.set_cons_zero, List.set_cons_succ]
      refine rg_take rfl rfl hS (fun W hW => exec_load5 _ rfl _ _ rfl (HC W ga hW).out.2.1) ?_
      simp only [Act.put, List.setIfInBounds_toArray, List.set_cons_zero, List.set_cons_succ]
      refine rg_take rfl rfl hS (fun W hW => exec_rem3 _ _ rfl x.on.toNat on rfl rfl hon8 HON.out) ?_
      simp only [Act.put, List.setIfInBounds_toArray, List.set_cons_zero, List.set_cons_succ]
      refine rg_take rfl rfl hS (fun W hW => exec_q2 _ rfl ga rfl) ?_
      simp only [Act.put, List.setIfInBounds_toArray, List.set_cons_zero, List.set_cons_succ]
      refine rg_take rfl rfl hS (fun W hW => exec_load5 _ rfl _ _ rfl (HC W ga hW).out.2.2.1) ?_
      simp only [Act.put, List.setIfInBounds_toArray, List.set_cons_zero, List.set_cons_succ]
      refine rg_take rfl rfl hS (fun W hW => exec_rem3 _ _ rfl x.tq.toNat tq rfl rfl hto8 HTQ.out) ?_
      simp only [Act.put, List.setIfInBounds_toArray, List.set_cons_zero, List.set_cons_succ]
      refine rg_take (v := ?v6_6) rfl rfl hS ?y6_6 ?_
      case y6_6 => intro W hW; (try subst hW); go_simp; try with_reducible rfl
      simp only [Act.put, List.setIfInBounds_toArray, List.set_cons_zero, List.set_cons_succ]
      refine rg_take (v := ?v6_7) rfl rfl hS ?y6_7 ?_
      case y6_7 => intro W hW; (try subst hW); go_simp; try with_reducible rfl
      simp only [Act.put, List.setIfInBounds_toArray, List.set_cons_zero, List.set_cons_succ]
      refine rg_done (by kernel_rfl) ?_
      have D2 : Below w2.heap.size w2 w2.drew := (Below.refl _ _).drew
      have S3 := S2.next D2
      have b3 : Blk w2.drew ga 109 cs := b2.drew
      clear hS D2 S2 b2
      generalize w2.drew = w3 at *
      clear HON HTQ
      have c3 := HC w3 ga b3
      go_upto_region 10 with fail
      refine wp_region_lit ?_
      refine wpList_yield rfl _ (exec_q0 _ rfl ga rfl) ?_
      simp only [Act.put, List.setIfInBounds_toArray, List.set_cons_zero, List.set_cons_succ]
      refine wpList_yield rfl _ (exec_load5 _ rfl _ _ rfl c3.out.1) ?_
      simp only [Act.put, List.setIfInBounds_toArray, List.set_cons_zero, List.set_cons_succ]
      refine wpList_nil ?_
      have hlo := hlen on hon
      generalize hq : x.k.toNat = kz at *
      clear hq hon8 hto8
      have hkz : kz = 0 ∨ kz = 1 ∨ kz = 2 ∨ (kz ≠ 0 ∧ kz ≠ 1 ∧ kz ≠ 2) := by omega
      rcases hkz with rfl | rfl | rfl | ⟨k0, k1, k2⟩
      · go_upto_region 17 with fail
        have r3 := r0.below S3.below
        have LE := Lib.hid (lent xA xn xc l w3 r3 hxl.out (by omega))
        refine wp_region_lit ?_
        refine wpList_yield rfl _ (exec_q3 _ rfl ga rfl) ?_
        simp only [Act.put, List.setIfInBounds_toArray, List.set_cons_zero, List.set_cons_succ]
        refine wpList_yield rfl _ (exec_load24 _ rfl _ _ rfl c3.out.2.2.2) ?_
        simp only [Act.put, List.setIfInBounds_toArray, List.set_cons_zero, List.set_cons_succ]
        refine wpList_plain rfl fun K hK => ?_; go_simp
        with_reducible refine LE.out.mono ?_
        rintro e1 w4 ⟨rfl, bl4, V4, s4⟩
        refine hK _ _ ?_; clear hK
        (try simp only [Act.put, List.setIfInBounds_toArray, List.set_cons_zero, List.set_cons_succ])
        refine wpList_yield rfl _ (exec_assign _ rfl) ?_
        simp only [Act.put, Act.eval, Array.getD_eq_getD_getElem?, List.getElem?_toArray, List.getElem?_cons_succ, List.getElem?_cons_zero, Option.getD_some, List.setIfInBounds_toArray, List.set_cons_zero, List.set_cons_succ]
        refine wpList_nil ?_
        have S4 := S3.next V4
        have b4 := b3.below V4 b3.lt
        have hgl := S3.n1
        clear LE s4 c3 r3
        generalize hgv : w3.heap.size = gl at *
        have D4 : Below w4.heap.size w4 w4.drew := (Below.refl _ _).drew
        have S4d := S4.next D4
        have b4d : Blk w4.drew ga 109 cs := b4.drew
        have bl4d : Blk w4.drew gl 5 (bvs (lentAll l)) := bl4.drew
        obtain ⟨cp, hcp⟩ := (S4d.st on hon).blk
        have n1 : gs ≠ P on := S4d.bs.ne hcp (by decide)
        have n2 : ga ≠ P on := b4d.ne hcp (by decide)
        have n3 : gl ≠ P on := bl4d.ne hcp (by decide)
        have WR := Lib.hid (write_state (P on) (m on) (some ⟨gl, 0, none⟩) xn (xn + 5) l w4.drew (S4d.st on hon) hxl.out (fun _ => lent_lft bl4d hxl.out hxn n3) (by omega))
        clear D4 S4 b4 bl4 hcp V4 S3 b3
        go_upto_region 18 with fail
        refine rg_begin (fun W => Blk W gs 106 (ptr3 P) ∧ Blk W ga 109 cs) [] [4, 13] [0, 1, 2, 3, 5, 6, 7, 4, 8, 9, 10, 11, 12, 13, 14, 15] 0 mixed (by kernel_rfl) (fun _ _ _ _ e hh => ⟨e.symm.trans hh.1, hh.2⟩) ?_
        simp only [pick, List.map_cons, List.map_nil, List.getD_cons_zero, List.getD_cons_succ]
        have hS : (fun W => Blk W gs 106 (ptr3 P) ∧ Blk W ga 109 cs) _ := ⟨S4d.bs, b4d⟩
        refine rg_take (v := ?v7_0) rfl rfl hS ?y7_0 ?_
        case y7_0 => intro W hW; (try subst hW); go_simp; try with_reducible rfl
        simp only [Act.put, List.setIfInBounds_toArray, List.set_cons_zero, List.set_cons_succ]
        refine rg_take rfl rfl hS (fun W hW => exec_ia0 ia106 _ _ rfl gs on _ rfl rfl hon) ?_
        simp only [Act.put, List.setIfInBounds_toArray, List.set_cons_zero, List.set_cons_succ]
        refine rg_take rfl rfl hS (fun W hW => exec_load104 _ rfl _ _ rfl (ptr3_cell hW.1 on hon)) ?_
        simp only [Act.put, List.setIfInBounds_toArray, List.set_cons_zero, List.set_cons_succ]
        refine rg_take (v := ?v7_3) rfl rfl hS ?y7_3 ?_
        case y7_3 => intro W hW; (try subst hW); go_simp; try with_reducible rfl
        simp only [Act.put, List.setIfInBounds_toArray, List.set_cons_zero, List.set_cons_succ]
        refine rg_take rfl rfl hS (fun W hW => exec_q3 _ rfl ga rfl) ?_
        simp only [Act.put, List.setIfInBounds_toArray, List.set_cons_zero, List.set_cons_succ]
        refine rg_take rfl rfl hS (fun W hW => exec_load24 _ rfl _ _ rfl (HC W ga hW.2).out.2.2.2) ?_
        simp only [Act.put, List.setIfInBounds_toArray, List.set_cons_zero, List.set_cons_succ]
        refine rg_take rfl rfl hS (fun W hW => exec_len24 _ rfl xA xn xc rfl) ?_
        simp only [Act.put, List.setIfInBounds_toArray, List.set_cons_zero, List.set_cons_succ]
        refine rg_one rfl rfl ?_; intro K hK; go_simp
        with_reducible refine WR.out.mono ?_
        rintro e1 w5 ⟨rfl, st5, f5⟩
        have hS1 := And.intro (hS.1.fr f5 n1) (hS.2.fr f5 n2)
        have S5 := S4d.write on hon l f5 st5
        have bl5 := bl4d.fr f5 n3
        have KB := Lib.hid (kept_bytes ⟨gl, 0, none⟩ xA xn xc l w5 (r0.below S5.below) hxl.out (by omega) (lent_rd6 bl5))
        refine hK _ _ (fun _ => hS1) ?_; clear hK
        refine rg_take (v := ?v7_8) rfl rfl hS1 ?y7_8 ?_
        case y7_8 => intro W hW; (try subst hW); go_simp; try with_reducible rfl
        simp only [Act.put, List.setIfInBounds_toArray, List.set_cons_zero, List.set_cons_succ]
        refine rg_take (v := ?v7_9) rfl rfl hS1 ?y7_9 ?_
        case y7_9 => intro W hW; (try subst hW); go_simp; try with_reducible rfl
        simp only [Act.put, List.setIfInBounds_toArray, List.set_cons_zero, List.set_cons_succ]
        refine rg_take (v := ?v7_10) rfl rfl hS1 ?y7_10 ?_
        case y7_10 => intro W hW; (try subst hW); go_simp; try with_reducible rfl
        simp only [Act.put, List.setIfInBounds_toArray, List.set_cons_zero, List.set_cons_succ]
        refine rg_take rfl rfl hS1 (fun W hW => exec_q3 _ rfl ga rfl) ?_
        simp only [Act.put, List.setIfInBounds_toArray, List.set_cons_zero, List.set_cons_succ]
        refine rg_take rfl rfl hS1 (fun W hW => exec_load24 _ rfl _ _ rfl (HC W ga hW.2).out.2.2.2) ?_
        simp only [Act.put, List.setIfInBounds_toArray, List.set_cons_zero, List.set_cons_succ]
        refine rg_one rfl rfl ?_; intro K hK; go_simp
        with_reducible refine KB.out.mono ?_
        rintro e1 w6 ⟨rfl, V6⟩
        have hS2 := And.intro (hS1.1.below V6 hS1.1.lt) (hS1.2.below V6 hS1.2.lt)
        refine hK _ _ (fun _ => hS2) ?_; clear hK
        refine rg_take (v := ?v7_14) rfl rfl hS2 ?y7_14 ?_
        case y7_14 => intro W hW; (try subst hW); go_simp; try with_reducible rfl
        simp only [Act.put, List.setIfInBounds_toArray, List.set_cons_zero, List.set_cons_succ]
        refine rg_take (v := ?v7_15) rfl rfl hS2 ?y7_15 ?_
        case y7_15 => intro W hW; (try subst hW); go_simp; try with_reducible rfl
        simp only [Act.put, List.setIfInBounds_toArray, List.set_cons_zero, List.set_cons_succ]
        refine rg_done (by kernel_rfl) ?_
        have S6 := S5.next V6
        have b6 := hS2.2
        have bl6 := bl5.below V6 bl5.lt
        have OV := Lib.hid (over_lent gl xn l w6 bl6 hxl.out hxn)
        have n4 : ga ≠ gl := b6.ne bl6 (by decide)
        clear hS hS1 hS2 S5 bl5 V6 KB WR f5 st5 S4d b4d bl4d
        go_upto_region 20 with fail
        refine wp_region_lit ?_
        refine wpList_yield rfl _ (exec_move _ rfl) ?_
        simp only [Act.put, Act.eval, Array.getD_eq_getD_getElem?, List.getElem?_toArray, List.getElem?_cons_succ, List.getElem?_cons_zero, Option.getD_some, List.setIfInBounds_toArray, List.set_cons_zero, List.set_cons_succ]
        refine wpList_plain rfl fun K hK => ?_; go_simp
        with_reducible refine OV.out.mono ?_
        rintro e1 w7 ⟨rfl, f7⟩
        refine hK _ _ ?_; clear hK
        (try simp only [Act.put, List.setIfInBounds_toArray, List.set_cons_zero, List.set_cons_succ])
        refine wpList_nil ?_
        have S7 := S6.fr f7 (fun b e => by rw [show b = gl from e]; exact hgl)
        have b7 := b6.fr f7 n4
        have D7 : Below w7.heap.size w7 w7.drew := (Below.refl _ _).drew
        have S8 := S7.next D7
        have b8 : Blk w7.drew ga 109 cs := b7.drew
        clear OV S6 b6 bl6 f7 D7 S7 b7 n1 n2 n3 n4
        obtain ⟨Am, cm, eV, am1, am2, rm8⟩ := (S8.ow on hon).rd
        have EV := Lib.hid eV
        clear eV
        go_upto_region 21 with fail
        refine rg_begin (fun W => Blk W gm 107 (val3 V) ∧ Blk W ga 109 cs) [10] [1, 5, 8, 9, 10] [0, 2, 3, 4, 6, 7, 1, 5, 8, 9, 10] 0 mixed (by kernel_rfl) (fun _ _ _ _ e hh => ⟨e.symm.trans hh.1, hh.2⟩) ?_
        simp only [pick, List.map_cons, List.map_nil, List.getD_cons_zero, List.getD_cons_succ]
        have hS : (fun W => Blk W gm 107 (val3 V) ∧ Blk W ga 109 cs) _ := ⟨S8.bm, b8⟩
        generalize w7.drew = w8 at *
        refine rg_take (v := ?v8_0) rfl rfl hS ?y8_0 ?_
        case y8_0 => intro W hW; (try subst hW); go_simp; try with_reducible rfl
        simp only [Act.put, List.setIfInBounds_toArray, List.set_cons_zero, List.set_cons_succ]
        refine rg_take (v := ?v8_2) rfl rfl hS ?y8_2 ?_
        case y8_2 => intro W hW; (try subst hW); go_simp; try with_reducible rfl
        simp only [Act.put, List.setIfInBounds_toArray, List.set_cons_zero, List.set_cons_succ]
        refine rg_take rfl rfl hS (fun W hW => exec_ia0 ia107 _ _ rfl gm on _ rfl rfl hon) ?_
        simp only [Act.put, List.setIfInBounds_toArray, List.set_cons_zero, List.set_cons_succ]
        refine rg_take rfl rfl hS (fun W hW => exec_load24 _ rfl _ _ rfl (val3_cell hW.1 on hon)) ?_
        simp only [Act.put, List.setIfInBounds_toArray, List.set_cons_zero, List.set_cons_succ]
        refine rg_take rfl rfl hS (fun W hW => exec_q3 _ rfl ga rfl) ?_
        simp only [Act.put, List.setIfInBounds_toArray, List.set_cons_zero, List.set_cons_succ]
        refine rg_take rfl rfl hS (fun W hW => exec_load24 _ rfl _ _ rfl (HC W ga hW.2).out.2.2.2) ?_
        simp only [Act.put, List.setIfInBounds_toArray, List.set_cons_zero, List.set_cons_succ]
        refine rg_one rfl rfl ?_; intro K hK; go_simp
        have hS1 := And.intro (hS.1.alloc (.cells #[] 5)) (hS.2.alloc (.cells #[] 5))
        have o1 := own_empty w8 (base := N) S8.n1
        have rmA : Rd (w8.alloc (.cells #[] 5)) Am (bvs (m on)) := rm8.alloc _
        have F1 : Fr (fun b => N ≤ b) w8 (w8.alloc (.cells #[] 5)) := (Fr.refl _ _).alloc _
        refine hK _ _ (fun _ => hS1) ?_; clear hK
        generalize World.alloc w8 _ = w9 at *
        generalize w8.heap.size = ge at *
        refine rg_one rfl rfl ?_; intro K hK
        refine wp_append_bytes bt (.tmp 94) (.tmp 97) rfl N _ [] rfl o1 Am (m on).length cm (m on) EV.out rfl rmA (by simp; omega) (Nat.le_trans S8.n1 F1.size) ?_
        intro v1 w10 o10 g10 _
        have hS2 := And.intro (hS1.1.keep o1 g10 (by decide)) (hS1.2.keep o1 g10 (by decide))
        have F2 : Fr (fun b => N ≤ b) w8 w10 := F1.grown g10 (fun b e => .inl (o1.lt b e).1)
        have S10 := S8.fr F2 (fun b h => h)
        refine hK _ _ (fun _ => hS2) ?_; clear hK
        refine rg_one rfl rfl ?_; intro K hK
        refine wp_append_bytes bt (.tmp 98) (.tmp 100) rfl N v1 ([] ++ m on) rfl o10 xA xn xc l rfl hxl.out (r0.below S10.below) (by simp; omega) S10.n1 ?_
        intro v2 w11 o11 g11 _
        have hS3 := And.intro (hS2.1.keep o10 g11 (by decide)) (hS2.2.keep o10 g11 (by decide))
        have F3 : Fr (fun b => N ≤ b) w10 w11 := (Fr.refl _ _).grown g11 (fun b e => .inl (o10.lt b e).1)
        have S11 := S10.fr F3 (fun b h => h)
        refine hK _ _ (fun _ => hS3) ?_; clear hK
        refine rg_one rfl rfl ?_; intro K hK
        refine wp_pure (exec_ia0 ia107 _ _ rfl gm on _ rfl rfl hon) ?_
        refine hK _ _ (fun _ => hS3) ?_; clear hK
        simp only [Act.put, List.setIfInBounds_toArray, List.set_cons_zero, List.set_cons_succ]
        refine rg_one rfl rfl ?_; intro K hK
        refine wp_store_one one24 _ _ rfl gm on 107 (val3 V) v2 rfl rfl (own_cell o11) hS3.1 (by simp [val3]; omega) ?_
        refine hK _ _ (fun h => by cases h) ?_; clear hK
        refine rg_done (by kernel_rfl) ?_
        have S12 := S11.put on hon (m on ++ l) v2 (by rw [List.nil_append] at o11; exact o11.mono S11.n0)
        have hR : RelS w gs gm t' (World.setCell w11 ⟨gm, on, none⟩ v2) := ⟨_, _, _, _, S12, upd_len on hlen (by rw [List.length_append, hxl.out]; omega) (by omega)⟩
        clear S12 S11 S10 S8 F1 F2 F3 hS hS1 hS2 hS3 o1 o10 o11 g10 g11 rm8 rmA b8 HC
        generalize World.setCell w11 _ _ = w12 at *
        go_wp2_with fail
        go_roundw
        case rel => exact ⟨j + 1, by omega, by go_num, by rw [HT.out]; exact hR⟩
        case measure => simp only [intOf]; omega
      · obtain ⟨Am, cm, eV, am1, am2, rm3⟩ := (S3.ow on hon).rd
        have EV := Lib.hid eV
        have D3 : Below w3.heap.size w3 w3.drew := (Below.refl _ _).drew
        have S3d := S3.next D3
        have rmd := rm3.below D3
        clear eV
        have SU := Lib.hid (sum_state (P on) (m on) w3.drew (S3d.st on hon) (by omega))
        have RS := fun (u : World) (r : Rd u Am (bvs (m on))) => Lib.hid (rsum_any Am (m on).length cm (m on) u r rfl (by omega))
        have DL : Hid ((shaL (m on)).length = 32) := Lib.hid (shaL_length _)
        rw [← EV.out] at RS
        unfold arr8 at SU RS
        generalize shaL (m on) = dg at *
        go_upto_region 23 with fail
        refine rg_begin (fun W => Blk W gs 106 (ptr3 P) ∧ Blk W gm 107 (val3 V)) [] [3, 7] [0, 1, 2, 4, 5, 6, 3, 7, 8] 0 mixed (by kernel_rfl) (fun _ _ _ _ e hh => ⟨e.symm.trans hh.1, hh.2⟩) ?_
        simp only [pick, List.map_cons, List.map_nil, List.getD_cons_zero, List.getD_cons_succ]
        have hS : (fun W => Blk W gs 106 (ptr3 P) ∧ Blk W gm 107 (val3 V)) _ := ⟨S3d.bs, S3d.bm⟩
        refine rg_take (v := ?v9_0) rfl rfl hS ?y9_0 ?_
        case y9_0 => intro W hW; (try subst hW); go_simp; try with_reducible rfl
        simp only [Act.put, List.setIfInBounds_toArray, List.set_cons_zero, List.set_cons_succ]
        refine rg_take rfl rfl hS (fun W hW => exec_ia0 ia106 _ _ rfl gs on _ rfl rfl hon) ?_
        simp only [Act.put, List.setIfInBounds_toArray, List.set_cons_zero, List.set_cons_succ]
        refine rg_take rfl rfl hS (fun W hW => exec_load104 _ rfl _ _ rfl (ptr3_cell hW.1 on hon)) ?_
        simp only [Act.put, List.setIfInBounds_toArray, List.set_cons_zero, List.set_cons_succ]
        refine rg_take (v := ?v9_4) rfl rfl hS ?y9_4 ?_
        case y9_4 => intro W hW; (try subst hW); go_simp; try with_reducible rfl
        simp only [Act.put, List.setIfInBounds_toArray, List.set_cons_zero, List.set_cons_succ]
        refine rg_take rfl rfl hS (fun W hW => exec_ia0 ia107 _ _ rfl gm on _ rfl rfl hon) ?_
        simp only [Act.put, List.setIfInBounds_toArray, List.set_cons_zero, List.set_cons_succ]
        refine rg_take rfl rfl hS (fun W hW => exec_load24 _ rfl _ _ rfl (val3_cell hW.2 on hon)) ?_
        simp only [Act.put, List.setIfInBounds_toArray, List.set_cons_zero, List.set_cons_succ]
        refine rg_one rfl rfl ?_; intro K hK; go_simp
        with_reducible refine SU.out.mono ?_
        rintro e1 w4 ⟨rfl, V4⟩
        have hS1 := And.intro (hS.1.below V4 hS.1.lt) (hS.2.below V4 hS.2.lt)
        refine hK _ _ (fun _ => hS1) ?_; clear hK
        refine rg_one rfl rfl ?_; intro K hK; go_simp
        with_reducible refine (RS _ (rmd.below V4)).out.mono ?_
        rintro e1 w5 ⟨rfl, V5⟩
        have hS2 := And.intro (hS1.1.below V5 hS1.1.lt) (hS1.2.below V5 hS1.2.lt)
        refine hK _ _ (fun _ => hS2) ?_; clear hK
        refine rg_take rfl rfl hS2 (fun W hW => exec_neq_same ab25 _ _ rfl dg rfl rfl DL.out) ?_
        simp only [Act.put, List.setIfInBounds_toArray, List.set_cons_zero, List.set_cons_succ]
        refine rg_done (by kernel_rfl) ?_
        have V6 := bthen D3 (bthen V4 V5 V4.size) D3.size
        have hR : RelS w gs gm t' w5 := RelS.same S3 hlen V6 (by omega)
        clear S3 b3 HC c3 S3d rmd rm3 hS hS1 hS2 V4 V5 V6 D3 SU RS
        go_wp2_with fail
        go_roundw
        case rel => exact ⟨j + 1, by omega, by go_num, by rw [HT.out]; exact hR⟩
        case measure => simp only [intOf]; omega
      · obtain ⟨Am, cm, eV, am1, am2, rm3⟩ := (S3.ow on hon).rd
        have EV := Lib.hid eV
        have D3 : Below w3.heap.size w3 w3.drew := (Below.refl _ _).drew
        have S3d := S3.next D3
        have rmd := rm3.below D3
        clear eV
        have LN := Lib.hid (len_state (P on) (m on) w3.drew (S3d.st on hon))
        generalize hml2 : (m on).length = L at *
        have HML := Lib.hid hml2
        clear hml2
        go_upto_region 26 with fail
        refine rg_begin (fun W => Blk W gs 106 (ptr3 P) ∧ Blk W gm 107 (val3 V)) [] [3] [0, 1, 2, 4, 5, 6, 7, 3, 8] 0 mixed (by kernel_rfl) (fun _ _ _ _ e hh => ⟨e.symm.trans hh.1, hh.2⟩) ?_
        simp only [pick, List.map_cons, List.map_nil, List.getD_cons_zero, List.getD_cons_succ]
        have hS : (fun W => Blk W gs 106 (ptr3 P) ∧ Blk W gm 107 (val3 V)) _ := ⟨S3d.bs, S3d.bm⟩
        refine rg_take (v := ?v10_0) rfl rfl hS ?y10_0 ?_
        case y10_0 => intro W hW; (try subst hW); go_simp; try with_reducible rfl
        simp only [Act.put, List.setIfInBounds_toArray, List.set_cons_zero, List.set_cons_succ]
        refine rg_take rfl rfl hS (fun W hW => exec_ia0 ia106 _ _ rfl gs on _ rfl rfl hon) ?_
        simp only [Act.put, List.setIfInBounds_toArray, List.set_cons_zero, List.set_cons_succ]
        refine rg_take rfl rfl hS (fun W hW => exec_load104 _ rfl _ _ rfl (ptr3_cell hW.1 on hon)) ?_
        simp only [Act.put, List.setIfInBounds_toArray, List.set_cons_zero, List.set_cons_succ]
        refine rg_take (v := ?v10_4) rfl rfl hS ?y10_4 ?_
        case y10_4 => intro W hW; (try subst hW); go_simp; try with_reducible rfl
        simp only [Act.put, List.setIfInBounds_toArray, List.set_cons_zero, List.set_cons_succ]
        refine rg_take rfl rfl hS (fun W hW => exec_ia0 ia107 _ _ rfl gm on _ rfl rfl hon) ?_
        simp only [Act.put, List.setIfInBounds_toArray, List.set_cons_zero, List.set_cons_succ]
        refine rg_take rfl rfl hS (fun W hW => exec_load24 _ rfl _ _ rfl (val3_cell hW.2 on hon)) ?_
        simp only [Act.put, List.setIfInBounds_toArray, List.set_cons_zero, List.set_cons_succ]
        refine rg_take rfl rfl hS (fun W hW => exec_len24 (.tmp 122) rfl Am L cm EV.out) ?_
        simp only [Act.put, List.setIfInBounds_toArray, List.set_cons_zero, List.set_cons_succ]
        refine rg_one rfl rfl ?_; intro K hK; go_simp
        with_reducible refine LN.out.mono ?_
        rintro e1 _ ⟨rfl, rfl⟩
        refine hK _ _ (fun _ => hS) ?_; clear hK
        refine rg_take (v := ?v10_8) rfl rfl hS ?y10_8 ?_
        case y10_8 => intro W hW; (try subst hW); go_simp; try with_reducible rfl
        simp only [Act.put, List.setIfInBounds_toArray, List.set_cons_zero, List.set_cons_succ]
        refine rg_done (by kernel_rfl) ?_
        have hR : RelS w gs gm t' w3.drew := RelS.same S3 hlen D3 (by omega)
        clear S3 b3 HC c3 S3d rmd rm3 hS D3 LN
        go_wp2_with fail
        go_roundw
        case rel => exact ⟨j + 1, by omega, by go_num, by rw [HT.out]; exact hR⟩
        case measure => simp only [intOf]; omega
      · have e0 : ((kz : Int) == 0) = false := beq_eq_false_iff_ne.2 (by omega)
        have e1 : ((kz : Int) == 1) = false := beq_eq_false_iff_ne.2 (by omega)
        have e2 : ((kz : Int) == 2) = false := beq_eq_false_iff_ne.2 (by omega)
        have CN := Lib.hid (clone_state (P on) (m on) w3 (S3.st on hon))
        clear k0 k1 k2
        go_upto_region 11 with fail
        refine wp_region_lit ?_
        refine wpList_yield rfl _ (exec_move _ rfl) ?_
        simp only [Act.put, Act.eval, Array.getD_eq_getD_getElem?, List.getElem?_toArray, List.getElem?_cons_succ, List.getElem?_cons_zero, Option.getD_some, List.setIfInBounds_toArray, List.set_cons_zero, List.set_cons_succ]
        refine wpList_yield rfl _ (exec_ia0 ia106 _ _ rfl gs on _ rfl rfl hon) ?_
        simp only [Act.put, List.setIfInBounds_toArray, List.set_cons_zero, List.set_cons_succ]
        refine wpList_yield rfl _ (exec_load104 _ rfl _ _ rfl (ptr3_cell S3.bs on hon)) ?_
        simp only [Act.put, List.setIfInBounds_toArray, List.set_cons_zero, List.set_cons_succ]
        refine wpList_plain rfl fun K hK => ?_; go_simp
        with_reducible refine CN.out.mono ?_
        rintro e3 w4 ⟨q, rfl, hq, st4, V4⟩
        refine hK _ _ ?_; clear hK
        (try simp only [Act.put, List.setIfInBounds_toArray, List.set_cons_zero, List.set_cons_succ])
        refine wpList_yield rfl _ (exec_assign _ rfl) ?_
        simp only [Act.put, Act.eval, Array.getD_eq_getD_getElem?, List.getElem?_toArray, List.getElem?_cons_succ, List.getElem?_cons_zero, Option.getD_some, List.setIfInBounds_toArray, List.set_cons_zero, List.set_cons_succ]
        refine wpList_nil ?_
        have S4 := S3.next V4
        have hqN : N ≤ q := Nat.le_trans S3.n1 hq
        have hne : ¬ q = P on := by have := (S4.p0 on hon).2; omega
        clear CN S3 b3 c3 V4 hq
        go_upto_region 12 with fail
        refine wp_region_lit ?_
        refine wpList_yield rfl _ (exec_move _ rfl) ?_
        simp only [Act.put, Act.eval, Array.getD_eq_getD_getElem?, List.getElem?_toArray, List.getElem?_cons_succ, List.getElem?_cons_zero, Option.getD_some, List.setIfInBounds_toArray, List.set_cons_zero, List.set_cons_succ]
        refine wpList_yield rfl ?vp11_1 ?yp11_1 ?_
        case yp11_1 => go_simp; try with_reducible rfl
        simp only [Act.put, List.setIfInBounds_toArray, List.set_cons_zero, List.set_cons_succ]
        refine wpList_yield rfl _ (exec_move _ rfl) ?_
        simp only [Act.put, Act.eval, Array.getD_eq_getD_getElem?, List.getElem?_toArray, List.getElem?_cons_succ, List.getElem?_cons_zero, Option.getD_some, List.setIfInBounds_toArray, List.set_cons_zero, List.set_cons_succ]
        refine wpList_yield_w rfl _ (exec_move _ rfl) ?_
        simp only [Act.put, Act.eval, Array.getD_eq_getD_getElem?, List.getElem?_toArray, List.getElem?_cons_succ, List.getElem?_cons_zero, Option.getD_some, List.setIfInBounds_toArray, List.set_cons_zero, List.set_cons_succ]
        refine wpList_yield_w rfl _ (exec_move _ rfl) ?_
        simp only [Act.put, Act.eval, Array.getD_eq_getD_getElem?, List.getElem?_toArray, List.getElem?_cons_succ, List.getElem?_cons_zero, Option.getD_some, List.setIfInBounds_toArray, List.set_cons_zero, List.set_cons_succ]
        refine wpList_yield_w rfl _ (exec_ia0 ia106 _ _ rfl gs on _ rfl rfl hon) ?_
        simp only [Act.put, List.setIfInBounds_toArray, List.set_cons_zero, List.set_cons_succ]
        refine wpList_yield_w rfl _ (exec_load104 _ rfl _ _ rfl (ptr3_cell S4.bs on hon)) ?_
        simp only [Act.put, List.setIfInBounds_toArray, List.set_cons_zero, List.set_cons_succ]
        refine wpList_yield_w rfl _ (exec_ptr_ne (.tmp 54) (.tmp 57) rfl q (P on) rfl rfl hne st4.blk (S4.st on hon).blk) ?_
        simp only [Act.put, List.setIfInBounds_toArray, List.set_cons_zero, List.set_cons_succ]
        refine wpList_yield rfl ?vp12_8 ?yp12_8 ?_
        case yp12_8 => go_simp; try with_reducible rfl
        simp only [Act.put, List.setIfInBounds_toArray, List.set_cons_zero, List.set_cons_succ]
        refine wpList_nil ?_
        go_upto_region 14 with fail
        refine wp_region_lit ?_
        refine wpList_yield rfl _ (exec_move _ rfl) ?_
        simp only [Act.put, Act.eval, Array.getD_eq_getD_getElem?, List.getElem?_toArray, List.getElem?_cons_succ, List.getElem?_cons_zero, Option.getD_some, List.setIfInBounds_toArray, List.set_cons_zero, List.set_cons_succ]
        refine wpList_yield rfl _ (exec_move _ rfl) ?_
        simp only [Act.put, Act.eval, Array.getD_eq_getD_getElem?, List.getElem?_toArray, List.getElem?_cons_succ, List.getElem?_cons_zero, Option.getD_some, List.setIfInBounds_toArray, List.set_cons_zero, List.set_cons_succ]
        refine wpList_yield rfl _ (exec_ia0 ia106 _ _ rfl gs tq _ rfl rfl htq) ?_
        simp only [Act.put, List.setIfInBounds_toArray, List.set_cons_zero, List.set_cons_succ]
        refine wpList_store_one rfl one104 _ _ rfl gs tq 106 (ptr3 P) (.pointer (some ⟨q, 0, none⟩)) rfl rfl rfl S4.bs (by simp [ptr3]; omega) ?_
        (try simp only [Act.put, List.setIfInBounds_toArray, List.set_cons_zero, List.set_cons_succ])
        refine wpList_nil ?_
        have S5 := S4.point tq htq q (m on) hqN st4
        clear S4 st4 hne hqN
        generalize World.setCell w4 _ _ = w5 at *
        generalize w4.heap.size = N5 at *
        generalize upd P tq q = P5 at *
        obtain ⟨Am, cm, eV, am1, am2, rm5⟩ := (S5.ow on hon).rd
        have EV := Lib.hid eV
        clear eV
        have F1 : Fr (fun b => N5 ≤ b) w5 (w5.alloc (.cells #[] 5)) := (Fr.refl _ _).alloc _
        have S6 := S5.fr F1 (fun b h => h)
        have o6 := own_empty w5 (base := N5) S5.n1
        have rm6 : Rd (w5.alloc (.cells #[] 5)) Am (bvs (m on)) := rm5.alloc _
        go_upto_region 15 with fail
        refine wp_region_lit ?_
        refine wpList_yield rfl _ (exec_move _ rfl) ?_
        simp only [Act.put, Act.eval, Array.getD_eq_getD_getElem?, List.getElem?_toArray, List.getElem?_cons_succ, List.getElem?_cons_zero, Option.getD_some, List.setIfInBounds_toArray, List.set_cons_zero, List.set_cons_succ]
        refine wpList_plain rfl fun K hK => ?_; go_simp
        refine hK _ _ ?_; clear hK
        (try simp only [Act.put, List.setIfInBounds_toArray, List.set_cons_zero, List.set_cons_succ])
        refine wpList_yield rfl _ (exec_move _ rfl) ?_
        simp only [Act.put, Act.eval, Array.getD_eq_getD_getElem?, List.getElem?_toArray, List.getElem?_cons_succ, List.getElem?_cons_zero, Option.getD_some, List.setIfInBounds_toArray, List.set_cons_zero, List.set_cons_succ]
        refine wpList_yield rfl _ (exec_ia0 ia107 _ _ rfl gm on _ rfl rfl hon) ?_
        simp only [Act.put, List.setIfInBounds_toArray, List.set_cons_zero, List.set_cons_succ]
        refine wpList_yield rfl _ (exec_load24 _ rfl _ _ rfl (val3_cell S6.bm on hon)) ?_
        simp only [Act.put, List.setIfInBounds_toArray, List.set_cons_zero, List.set_cons_succ]
        refine wpList_append_bytes bt rfl (.tmp 64) (.tmp 67) rfl N5 _ [] rfl o6 Am (m on).length cm (m on) EV.out rfl rm6 (by simp; omega) S6.n1 ?_
        intro v2 w7 o7 g7 _
        have F2 : Fr (fun b => N5 ≤ b) (w5.alloc (.cells #[] 5)) w7 := (Fr.refl _ _).grown g7 (fun b e => .inl (o6.lt b e).1)
        have S7 := S6.fr F2 (fun b h => h)
        (try simp only [Act.put, List.setIfInBounds_toArray, List.set_cons_zero, List.set_cons_succ])
        refine wpList_yield rfl _ (exec_ia0 ia107 _ _ rfl gm tq _ rfl rfl htq) ?_
        simp only [Act.put, List.setIfInBounds_toArray, List.set_cons_zero, List.set_cons_succ]
        refine wpList_store_one rfl one24 _ _ rfl gm tq 107 (val3 V) v2 rfl rfl (own_cell o7) S7.bm (by simp [val3]; omega) ?_
        (try simp only [Act.put, List.setIfInBounds_toArray, List.set_cons_zero, List.set_cons_succ])
        refine wpList_nil ?_
        have S8 := S7.put tq htq (m on) v2 (by rw [List.nil_append] at o7; exact o7.mono S7.n0)
        have hR : RelS w gs gm t' (World.setCell w7 ⟨gm, tq, none⟩ v2) := ⟨_, _, _, _, S8, upd_len tq hlen (by omega) (by omega)⟩
        clear S8 S7 S6 S5 F1 F2 o6 o7 g7 rm5 rm6 HC
        generalize World.setCell w7 _ _ = w8 at *
        go_wp2_with fail
        go_roundw
        case rel => exact ⟨j + 1, by omega, by go_num, by rw [HT.out]; exact hR⟩
        case measure => simp only [intOf]; omega
    · have hltz : ¬ (j : Int) < (n : Int) := by omega
      have hcl : capS xs j ≤ 1048576 := Nat.le_trans (CL j).out HB.out
      generalize capS xs j = t at *
      clear CL HB z109
      go_upto_region 28 with fail
      go_wp2_with fail
      go_loopw [11] (fun i wr => ∃ k : Nat, k ≤ 3 ∧ i = .int .i64 (k : Int) ∧ ScS w gs gm P m m V N wr) (fun i _ => 3 - (intOf i).toNat)
      case atStart => exact ⟨0, by omega, by go_num, S1⟩
      case round =>
        clear S1
        obtain ⟨k, hk, rfl, S3⟩ := hrel
        by_cases hk3 : k < 3
        · have hkz : (k : Int) < 3 := by omega
          have hlo := hlen k hk3
          obtain ⟨Am, cm, eV, am1, am2, rm3⟩ := (S3.ow k hk3).rd
          have EV := Lib.hid eV
          have D3 : Below wr.heap.size wr wr.drew := (Below.refl _ _).drew
          have S3d := S3.next D3
          have rmd := rm3.below D3
          clear eV
          have SU := Lib.hid (sum_state (P k) (m k) wr.drew (S3d.st k hk3) (by omega))
          have RS := fun (u : World) (r : Rd u Am (bvs (m k))) => Lib.hid (rsum_any Am (m k).length cm (m k) u r rfl (by omega))
          have DL : Hid ((shaL (m k)).length = 32) := Lib.hid (shaL_length _)
          have LN := fun (u : World) (q : St u (P k) (m k)) => Lib.hid (len_state (P k) (m k) u q)
          rw [← EV.out] at RS
          unfold arr8 at SU RS
          generalize shaL (m k) = dg at *
          generalize hml2 : (m k).length = L at *
          have HML := Lib.hid hml2
          clear hml2
          go_upto_region 31 with fail
          refine rg_begin (fun W => Blk W gs 106 (ptr3 P) ∧ Blk W gm 107 (val3 V)) [] [3, 7, 13] [0, 1, 2, 4, 5, 6, 3, 7, 8, 9, 10, 11, 12, 14, 15, 16, 17, 13, 18, 19] 0 mixed (by kernel_rfl) (fun _ _ _ _ e hh => ⟨e.symm.trans hh.1, hh.2⟩) ?_
          simp only [pick, List.map_cons, List.map_nil, List.getD_cons_zero, List.getD_cons_succ]
          have hS : (fun W => Blk W gs 106 (ptr3 P) ∧ Blk W gm 107 (val3 V)) _ := ⟨S3d.bs, S3d.bm⟩
          refine rg_take (v := ?v13_0) rfl rfl hS ?y13_0 ?_
          case y13_0 => intro W hW; (try subst hW); go_simp; try with_reducible rfl
          simp only [Act.put, List.setIfInBounds_toArray, List.set_cons_zero, List.set_cons_succ]
          refine rg_take rfl rfl hS (fun W hW => exec_ia0 ia106 _ _ rfl gs k _ rfl rfl hk3) ?_
          simp only [Act.put, List.setIfInBounds_toArray, List.set_cons_zero, List.set_cons_succ]
          refine rg_take rfl rfl hS (fun W hW => exec_load104 _ rfl _ _ rfl (ptr3_cell hW.1 k hk3)) ?_
          simp only [Act.put, List.setIfInBounds_toArray, List.set_cons_zero, List.set_cons_succ]
          refine rg_take (v := ?v13_4) rfl rfl hS ?y13_4 ?_
          case y13_4 => intro W hW; (try subst hW); go_simp; try with_reducible rfl
          simp only [Act.put, List.setIfInBounds_toArray, List.set_cons_zero, List.set_cons_succ]
          refine rg_take rfl rfl hS (fun W hW => exec_ia0 ia107 _ _ rfl gm k _ rfl rfl hk3) ?_
          simp only [Act.put, List.setIfInBounds_toArray, List.set_cons_zero, List.set_cons_succ]
          refine rg_take rfl rfl hS (fun W hW => exec_load24 _ rfl _ _ rfl (val3_cell hW.2 k hk3)) ?_
          simp only [Act.put, List.setIfInBounds_toArray, List.set_cons_zero, List.set_cons_succ]
          refine rg_one rfl rfl ?_; intro K hK; go_simp
          with_reducible refine SU.out.mono ?_
          rintro e1 w4 ⟨rfl, V4⟩
          have hS1 := And.intro (hS.1.below V4 hS.1.lt) (hS.2.below V4 hS.2.lt)
          refine hK _ _ (fun _ => hS1) ?_; clear hK
          refine rg_one rfl rfl ?_; intro K hK; go_simp
          with_reducible refine (RS _ (rmd.below V4)).out.mono ?_
          rintro e1 w5 ⟨rfl, V5⟩
          have hS2 := And.intro (hS1.1.below V5 hS1.1.lt) (hS1.2.below V5 hS1.2.lt)
          refine hK _ _ (fun _ => hS2) ?_; clear hK
          refine rg_take rfl rfl hS2 (fun W hW => exec_neq_same ab25 _ _ rfl dg rfl rfl DL.out) ?_
          simp only [Act.put, List.setIfInBounds_toArray, List.set_cons_zero, List.set_cons_succ]
          refine rg_take (v := ?v13_9) rfl rfl hS2 ?y13_9 ?_
          case y13_9 => intro W hW; (try subst hW); go_simp; try with_reducible rfl
          simp only [Act.put, List.setIfInBounds_toArray, List.set_cons_zero, List.set_cons_succ]
          refine rg_take (v := ?v13_10) rfl rfl hS2 ?y13_10 ?_
          case y13_10 => intro W hW; (try subst hW); go_simp; try with_reducible rfl
          simp only [Act.put, List.setIfInBounds_toArray, List.set_cons_zero, List.set_cons_succ]
          refine rg_take rfl rfl hS2 (fun W hW => exec_ia0 ia106 _ _ rfl gs k _ rfl rfl hk3) ?_
          simp only [Act.put, List.setIfInBounds_toArray, List.set_cons_zero, List.set_cons_succ]
          refine rg_take rfl rfl hS2 (fun W hW => exec_load104 _ rfl _ _ rfl (ptr3_cell hW.1 k hk3)) ?_
          simp only [Act.put, List.setIfInBounds_toArray, List.set_cons_zero, List.set_cons_succ]
          refine rg_take (v := ?v13_14) rfl rfl hS2 ?y13_14 ?_
          case y13_14 => intro W hW; (try subst hW); go_simp; try with_reducible rfl
          simp only [Act.put, List.setIfInBounds_toArray, List.set_cons_zero, List.set_cons_succ]
          refine rg_take rfl rfl hS2 (fun W hW => exec_ia0 ia107 _ _ rfl gm k _ rfl rfl hk3) ?_
          simp only [Act.put, List.setIfInBounds_toArray, List.set_cons_zero, List.set_cons_succ]
          refine rg_take rfl rfl hS2 (fun W hW => exec_load24 _ rfl _ _ rfl (val3_cell hW.2 k hk3)) ?_
          simp only [Act.put, List.setIfInBounds_toArray, List.set_cons_zero, List.set_cons_succ]
          refine rg_take rfl rfl hS2 (fun W hW => exec_len24 (.tmp 145) rfl Am L cm EV.out) ?_
          simp only [Act.put, List.setIfInBounds_toArray, List.set_cons_zero, List.set_cons_succ]
          refine rg_one rfl rfl ?_; intro K hK; go_simp
          with_reducible refine (LN _ (((S3d.st k hk3).below V4).below V5)).out.mono ?_
          rintro e1 _ ⟨rfl, rfl⟩
          refine hK _ _ (fun _ => hS2) ?_; clear hK
          refine rg_take (v := ?v13_18) rfl rfl hS2 ?y13_18 ?_
          case y13_18 => intro W hW; (try subst hW); go_simp; try with_reducible rfl
          simp only [Act.put, List.setIfInBounds_toArray, List.set_cons_zero, List.set_cons_succ]
          refine rg_take (v := ?v13_19) rfl rfl hS2 ?y13_19 ?_
          case y13_19 => intro W hW; (try subst hW); go_simp; try with_reducible rfl
          simp only [Act.put, List.setIfInBounds_toArray, List.set_cons_zero, List.set_cons_succ]
          refine rg_done (by kernel_rfl) ?_
          have S6 := S3.next (bthen D3 (bthen V4 V5 V4.size) D3.size)
          clear S3 S3d rmd rm3 hS hS1 hS2 V4 V5 D3 SU RS LN
          go_wp2_with fail
          go_roundw
          case rel => exact ⟨k + 1, by omega, by go_num, S6⟩
          case measure => simp only [intOf]; omega
        · have hkz : ¬ (k : Int) < 3 := by omega
          have hB := S3.below
          clear S3
          go_wp2_with fail
          go_ret
          exact ⟨rfl, hB⟩
end Go.Proofs.Ytehbahobkgoapaa
