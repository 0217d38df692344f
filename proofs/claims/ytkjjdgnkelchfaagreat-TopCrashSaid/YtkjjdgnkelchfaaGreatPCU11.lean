import Derived.Test.YtkjjdgnkelchfaaGreatPCU10
set_option linter.unusedSimpArgs false
set_option linter.unusedVariables false
set_option maxRecDepth 100000
set_option maxHeartbeats 16000000
namespace Go.Proofs.YtkjjdgnkelchfaaGreat
open Go Go.RowKit
open Go.WideMaps (KeyLaw)
def MapP (w : World) (b : Nat) (es : List (Value × Value)) : Prop := ∃ (ents : Array MapEntry) (clock : Nat), w.heap[b]? = some (.map ents clock) ∧ ents.toList.map (fun e => (e.key, e.val)) = es
section
variable {P : Program} {w w' : World} {b : Nat} {es : List (Value × Value)} {k k' t e : TypeId} {key val z : Value} {kl : Lit} {o : Oper} {a : Act} {K : Act → World → Prop} {Q : Exit → Act → World → Prop}
theorem MapP.lt (h : MapP w b es) : b < w.heap.size := by
  obtain ⟨ents, clock, hb, _⟩ := h; exact (Array.getElem?_eq_some_iff.1 hb).1
theorem MapP.fr {S : Nat → Prop} (h : MapP w b es) (hf : Fr S w w') (hS : ¬ S b) : MapP w' b es := by
  have hlt := h.lt; obtain ⟨ents, clock, hb, he⟩ := h; exact ⟨ents, clock, (hf.block b hlt hS).trans hb, he⟩
theorem MapP.below (h : MapP w b es) (hb : Below w.heap.size w w') : MapP w' b es := h.fr (S := fun _ => False) (Fr.of_below hb) (fun f => f)
theorem MapP.ne_blk (h : MapP w b es) {g T : Nat} {cs : List Value} (hg : Blk w g T cs) : b ≠ g := fun e => by
  subst e; obtain ⟨ents, clock, hb, _⟩ := h; unfold Blk at hg; rw [hg] at hb; cases hb
def xh2 (P : Program) (k : TypeId) (es : List (Value × Value)) : Prop := ∀ x ∈ es, ∃ l, keyOf P k x.1 = some l
theorem MapP.find (h : MapP w b es) (K : KeyLaw P k) (hes : xh2 P k es) (hkey : keyOf P k key = some kl) : ∃ (ents : Array MapEntry) (clock : Nat), w.heap[b]? = some (.map ents clock) ∧ ents.toList.map (fun e => (e.key, e.val)) = es ∧
    (((Instr.findKey k key ents.toList).run P w = .ok none w ∧ ∀ x ∈ es, x.1 ≠ key) ∨ ∃ (j : Nat) (v : Value) (e0 : MapEntry), (Instr.findKey k key ents.toList).run P w = .ok (some (j, v)) w ∧ es[j]? = some (key, v) ∧ ents[j]? = some e0 ∧ e0.key = key) := by
  obtain ⟨ents, clock, hb, he⟩ := h; have hk : ∀ x ∈ ents.toList, ∃ l, keyOf P k x.key = some l := fun x hx => hes (x.key, x.val) (by rw [← he]; exact List.mem_map.2 ⟨x, hx, rfl⟩)
  refine ⟨ents, clock, hb, he, ?_⟩; rcases K.find w hkey ents.toList hk with ⟨h1, h2⟩ | ⟨j, e0, h1, h2, h3⟩
  · refine .inl ⟨h1, fun x hx => ?_⟩
    rw [← he] at hx; obtain ⟨y, hy, rfl⟩ := List.mem_map.1 hx; exact h2 y hy
  · refine .inr ⟨j, e0.val, e0, h1, ?_, by simpa using h2, h3⟩
    rw [← he, List.getElem?_map, h2, ← h3]; rfl
theorem xf7 (H : MapP w b es) (K : KeyLaw P k) (ht : P.underlying t = some (.map k e)) (hz : (zeroValue e).run P w = .ok z w) (hes : xh2 P k es) (hkey : keyOf P k key = some kl) (m x : Operand) (ho : o.op = .lookup t m x true) (hm : a.eval m = .map (some b)) (hx : a.eval x = key)
    (v : Value) (ok : Bool) (h : ((∀ y ∈ es, y.1 ≠ key) → v = z ∧ ok = false) ∧ (∀ (j : Nat) (u : Value), es[j]? = some (key, u) → v = u ∧ ok = true)) : (execOp a.eval o).run P w = .ok (.value (.tuple #[v, .bool ok])) w := by
  obtain ⟨ents, clock, hb, he, h1 | ⟨j, u, e0, h1, h2, _⟩⟩ := H.find K hes hkey
  · obtain ⟨rfl, rfl⟩ := h.1 h1.2
    unfold execOp; simp [ho, hm, hx, Instr.lookup, run_underlying ht, MapKept.run_getObj_map hb, K.check w _ hkey, h1.1, hz, Result.andThen]
  · obtain ⟨rfl, rfl⟩ := h.2 j u h2
    unfold execOp; simp [ho, hm, hx, Instr.lookup, run_underlying ht, MapKept.run_getObj_map hb, K.check w _ hkey, h1, Result.andThen]
theorem xeq {b : Nat} {o o' : Obj} (hb : w.heap[b]? = some o) : ({ w with heap := w.heap.setIfInBounds b o' } : World).heap[b]? = some o' := by
  have hlt := (Array.getElem?_eq_some_iff.1 hb).1; simp [Array.getElem?_setIfInBounds, hlt]
theorem xh3 (b : Nat) (o' : Obj) : w.grownBy { w with heap := w.heap.setIfInBounds b o' } (some b) :=
  ⟨rfl, rfl, rfl, by simp, fun i _ hi => by
    have hne : ¬ b = i := fun e => hi (by rw [e])
    simp [Array.getElem?_setIfInBounds, hne]⟩
theorem xk5 (H : MapP w b es) (K' : KeyLaw P k) (ht : P.underlying t = some (.map k e)) (hes : xh2 P k es) (hkey : keyOf P k key = some kl) (m x y : Operand) (ho : o.op = .mapUpdate t m x y) (hm : a.eval m = .map (some b)) (hx : a.eval x = key) (hy : a.eval y = val)
    (hn : ∀ p ∈ es, p.1 ≠ key) (h : ∀ w', MapP w' b (es ++ [(key, val)]) → w.grownBy w' (some b) → K (a.put o.dst undef) w') : o.wp P a w K Q := by
  obtain ⟨ents, clock, hb, he, h1 | ⟨j, u, e0, h1, h2, _⟩⟩ := H.find K' hes hkey
  · have hrun : (Instr.mapUpdate t (.map (some b)) key val).run P w = .ok () { w with heap := w.heap.setIfInBounds b (.map (ents.push ⟨key, val, clock⟩) (clock + 1)) } := by
      simp [Instr.mapUpdate, run_underlying ht, MapKept.run_getObj_map hb, K'.check w false hkey, h1.1, MapKept.run_setObj_map _ hb, Result.andThen]
    unfold Oper.wp; simp [execOp, ho, hm, hx, hy, hrun, Result.andThen]; exact h _ ⟨_, _, xeq hb, by simp [he]⟩ (xh3 b _)
  · exact absurd rfl (hn _ (List.mem_of_getElem? h2))
theorem xhf {α β : Type} (f : α → β) (l : List α) (j : Nat) : (l.eraseIdx j).map f = (l.map f).eraseIdx j := by
  induction l generalizing j with
  | nil => rfl
  | cons x l ih => cases j with
    | zero => rfl
    | succ j => simp [ih]
theorem xso (H : MapP w b es) (K' : KeyLaw P k) (ht : P.underlying t = some (.map k e)) (hes : xh2 P k es) (hkey : keyOf P k key = some kl) (m x : Operand) (ho : o.op = .call { callee := .builtin .delete, args := #[m, x], argTypes := #[t, k'] }) (hm : a.eval m = .map (some b)) (hx : a.eval x = key)
    (h : ∀ w' es', MapP w' b es' → w.grownBy w' (some b) → (((∀ p ∈ es, p.1 ≠ key) ∧ es' = es) ∨ ∃ (j : Nat) (u : Value), es[j]? = some (key, u) ∧ es' = es.eraseIdx j) → K (a.put o.dst (.tuple #[])) w') : o.wp P a w K Q := by
  obtain ⟨ents, clock, hb, he, h1 | ⟨j, u, e0, h1, h2, h3, _⟩⟩ := H.find K' hes hkey
  · have hrun : (Builtin.delete_ #[t, k'] o.type #[.map (some b), key]).run P w = .ok (.tuple #[]) { w with heap := w.heap.setIfInBounds b (.map ents clock) } := by
      simp [Builtin.delete_, run_underlying ht, MapKept.run_getObj_map hb, K'.check w _ hkey, h1.1, MapKept.run_setObj_map _ hb, Result.andThen]
    unfold Oper.wp execOp; simp only [ho, resolve, invoke, builtin, Sem.run_bind, Sem.run_pure, Result.andThen_ok, List.map_toArray, qk, ql, hm, hx, hrun]; exact h _ es ⟨_, _, xeq hb, he⟩ (xh3 b _) (.inl ⟨h1.2, rfl⟩)
  · have hrun : (Builtin.delete_ #[t, k'] o.type #[.map (some b), key]).run P w = .ok (.tuple #[]) { w with heap := w.heap.setIfInBounds b (.map (ents.eraseIdxIfInBounds j) clock) } := by
      simp [Builtin.delete_, run_underlying ht, MapKept.run_getObj_map hb, K'.check w _ hkey, h1, MapKept.run_setObj_map _ hb, Result.andThen]
    have hjl : j < ents.size := (Array.getElem?_eq_some_iff.1 h3).1
    have hsub : (ents.eraseIdxIfInBounds j).toList = ents.toList.eraseIdx j := by
      unfold Array.eraseIdxIfInBounds; rw [dif_pos hjl]; simp
    unfold Oper.wp execOp; simp only [ho, resolve, invoke, builtin, Sem.run_bind, Sem.run_pure, Result.andThen_ok, List.map_toArray, qk, ql, hm, hx, hrun]; exact h _ _ ⟨_, _, xeq hb, by rw [hsub, xhf, he]⟩ (xh3 b _) (.inr ⟨j, u, h2, rfl⟩)
theorem xip (H : MapP w b es) (ht : P.underlying t = some (.map k e)) (m : Operand) (ho : o.op = .call { callee := .builtin .len, args := #[m], argTypes := #[t] }) (hm : a.eval m = .map (some b)) : (execOp a.eval o).run P w = .ok (.value (.int .i64 (es.length : Int))) w := by
  obtain ⟨ents, clock, hb, he⟩ := H; have hl : ents.size = es.length := by rw [← he]; simp
  have hrun : (Builtin.len_ #[t] o.type #[.map (some b)]).run P w = .ok (.int .i64 (es.length : Int)) w := by
    simp [Builtin.len_, run_underlying ht, MapKept.run_getObj_map hb, Result.andThen, hl, goInt]
  unfold execOp; simp only [ho, resolve, invoke, builtin, Sem.run_bind, Sem.run_pure, Result.andThen_ok, List.map_toArray, qk, ql, hm, hrun]
theorem new_map (w : World) : MapP (w.alloc (.map #[] 0)) w.heap.size [] := ⟨#[], 0, (MapKept.heap_alloc w _).1, rfl⟩
theorem xq0 {w0 : World} {D : Nat → Prop} {L : List (Nat × Nat × List Value)} {ops : Array Oper} {rest : List Oper} (hgd : o.guard = none) (ho : o.op = .makeMap t none) (H : Loc w0 D L w)
    (h : ∀ g w', Loc w0 D L w' → MapP w' g [] → w.heap.size ≤ g → (∀ x ∈ L, x.1 ≠ g) → wpList P ops Q rest (a.put o.dst (.map (some g))) w') : wpList P ops Q (o :: rest) a w := by
  refine X1 ?_; intro K hK; unfold Oper.wp execOp; simp only [ho, Option.map_none, Sem.run_bind, run_makeMap_plain, Result.andThen_ok]; exact hK _ _ (h _ _ (H.next ((Below.refl _ _).alloc (Nat.le_refl _) _)) (new_map w) (Nat.le_refl _) (fun x hx e => by have := (H.own x hx).2.lt; omega))
end
theorem laidB : laidOutB Tryz.prog = true := by kernel_rfl
theorem law24 : KeyLaw Tryz.prog 24 := deep_law_laid laidB (m := 3) (by omega) (of_decide_eq_true (by kernel_rfl)) (by kernel_rfl) (by rw [Tryz.underlying24])
theorem law9 : KeyLaw Tryz.prog 9 := WideMaps.string_law Tryz.underlying9
theorem xk6 {α β : Type} (f : α → Option β) : ∀ l : List α, (∀ x ∈ l, ∃ y, f x = some y) → ∃ ys, l.mapM f = some ys
  | [], _ => ⟨[], rfl⟩
  | x :: l, h => by
    obtain ⟨y, hy⟩ := h x (by simp); obtain ⟨ys, hys⟩ := xk6 f l fun z hz => h z (by simp [hz])
    exact ⟨y :: ys, by simp [List.mapM_cons, hy, hys]⟩
theorem key24 (x : D32) : ∃ l, keyOf Tryz.prog 24 (.agg x.c.toArray) = some l := by
  have hkt : Tryz.prog.keyType 24 = true := by kernel_rfl
  have hc24 : Tryz.prog.cellsOf 24 = 32 := by kernel_rfl
  have hc5 : Tryz.prog.cellsOf 5 = 1 := by kernel_rfl
  have hf : (Value.agg x.c.toArray).formed Tryz.prog 24 = true := by simp [Value.formed, Tryz.underlying24, hc24, D32.cl]
  have hsz : ∃ n, Tryz.prog.types.size = n + 1 := ⟨Tryz.prog.types.size - 1, by have : 0 < Tryz.prog.types.size := of_decide_eq_true (by kernel_rfl); omega⟩; obtain ⟨n, hn⟩ := hsz
  have hl : ∃ ls, Tryz.prog.keyLits (Tryz.prog.types.size + 1) 24 x.c = some ls := by
    rw [hn]; unfold Program.keyLits; simp only [Tryz.underlying24]; rw [if_pos (by rw [D32.cl, hc24])]
    obtain ⟨ys, hys⟩ := xk6 (fun i => Tryz.prog.keyLits (n + 1) 5 ((x.c.drop (i * Tryz.prog.cellsOf 5)).take (Tryz.prog.cellsOf 5))) (List.range 32) fun i hi => by
      have hi : i < 32 := by simpa using hi
      rw [hc5, Nat.mul_one]; have hix : i < x.c.length := by rw [D32.cl]; exact hi
      have e : (x.c.drop i).take 1 = [x.c[i]] := by rw [List.drop_eq_getElem_cons hix]; rfl
      rw [e]; have hv : x.c[i] = .int .u8 ((x.l[i]'(by rw [x.h]; exact hi)).toNat : Int) := by simp [D32.c, bvs, bv]
      rw [hv]; unfold Program.keyLits; simp only [Tryz.underlying5]
      have hw : (Lit.int .u8 ((x.l[i]'(by rw [x.h]; exact hi)).toNat : Int)).wf = true := by
        have := (x.l[i]'(by rw [x.h]; exact hi)).toNat_lt; simp [Lit.wf, IntKind.min, IntKind.max, IntKind.bits, IntKind.signed]; omega
      exact ⟨_, if_pos ⟨trivial, hw⟩⟩
    exact ⟨_, by rw [hys]; rfl⟩
  obtain ⟨ls, hls⟩ := hl; refine ⟨.string (keyBytes ls), ?_⟩; unfold keyOf; simp only [Tryz.underlying24, hkt, hf, Bool.and_self, if_true]; have e : (Value.agg x.c.toArray).cells.toList = x.c := by simp [Value.cells]
  rw [e, hls]; rfl
theorem key9 (s : ByteArray) (h : s.size ≤ maxLen) : ∃ l, keyOf Tryz.prog 9 (.string s) = some l := ⟨_, by simp [keyOf, Tryz.underlying9, mapKey, h]; rfl⟩
end Go.Proofs.YtkjjdgnkelchfaaGreat
namespace Go.Proofs.YtkjjdgnkelchfaaGreat
open Go Go.RowKit
theorem xpm (x : Int) (w : World) (h0 : 0 ≤ x) (h1 : x ≤ 255) :
    Calls Tryz.prog 202 #[.int .u64 x] w fun e w' => ∃ r, e = .returned (.int .i64 r) ∧ w = w' := by
  have k1 : decide (x ≥ 4294967296) = false := by simp; omega
  have k2 : decide (x ≥ 65536) = false := by simp; omega
  have k3 : decide (x ≥ 256) = false := by simp; omega
  have k4 : x % 256 = x := by omega
  refine X2 ?_; intro e; go_enter Tryz.func202, Tryz.ntmps202
  go_wp2
  go_ret; exact ⟨_, rfl, rfl⟩
theorem xn0 (x : Int) (w : World) (h0 : 0 ≤ x) (h1 : x ≤ 255) :
    Calls Tryz.prog 135 #[.int .u64 x] w fun e w' => ∃ r, e = .returned (.int .i64 r) ∧ w = w' := by
  go_enter Tryz.func135, Tryz.ntmps135; go_wp2_with (go_at_call 202; refine (xpm _ _ h0 h1).mono ?_; rintro e w' ⟨r, rfl, rfl⟩); go_ret; exact ⟨_, rfl, rfl⟩
section
variable {P : Program} {w : World} {o : Oper} {a : Act} {Q : Exit → Act → World → Prop} {K : Act → World → Prop}
theorem xn1 {n : Nat} (C : CF P n) {x : Operand} {xs : List Operand} {ts : Array TypeId} (ho : o.op = .call { callee := .value x, args := xs.toArray, argTypes := ts }) (hx : a.eval x = .func (.func n) #[] #[])
    (args : List Value) (ha : xs.map a.eval = args) (hC : Calls P n args.toArray w fun e w' => ∃ v, e = .returned v ∧ K (a.put o.dst v) w') : o.wp P a w K Q := by
  obtain ⟨fn, hf, hnm, hb⟩ := C.f
  have e : (execOp a.eval o).run P w = .ok (.enter n args.toArray) w := by
    unfold execOp; simp only [ho, resolve, ha, List.map_toArray, hx]; have h1 : fn.name ≠ "runtime.NumGoroutine" := by simpa using hnm
    have h2 : fn.body ≠ none := by intro h; rw [h] at hb; cases hb
    simp [Deferred.ofValue, invoke, callFunc, hf, h1, h2]
  unfold Oper.wp; rw [e]; refine hC.mono ?_; rintro e w' ⟨v, rfl, hk⟩; exact hk
end
theorem xd6 {α : Type} (f : α → Nat) : ∀ (l : List α) (i : Nat) (x : α) (h : i < l.length), ((l.set i x).map f).sum + f l[i] = (l.map f).sum + f x
  | [], _, _, h => absurd h (Nat.not_lt_zero _)
  | a :: l, 0, x, _ => by simp only [qg, qk, List.sum_cons, List.getElem_cons_zero]; omega
  | a :: l, i + 1, x, h => by
    have := xd6 f l i x (by simpa using h); simp only [qh, qk, List.sum_cons, List.getElem_cons_succ]; omega
theorem xpn {α : Type} (f : α → Nat) (l : List α) (i : Nat) (h : i < l.length) : f l[i] ≤ (l.map f).sum := by
  induction l generalizing i with
  | nil => exact absurd h (Nat.not_lt_zero _)
  | cons a l ih =>
    cases i with
    | zero => simp
    | succ i =>
      have := ih i (by simpa using h); simp only [qk, List.sum_cons, List.getElem_cons_succ]; omega
theorem sum_zero {α : Type} (f : α → Nat) (l : List α) (h : ∀ x ∈ l, f x = 0) : (l.map f).sum = 0 := by
  induction l with
  | nil => rfl
  | cons a l ih =>
    simp only [qk, List.sum_cons]; have h1 := h a (by simp); have h2 := ih fun x hx => h x (by simp [hx])
    omega
def En.pts (e : En) (z : Int) : Nat := (if e.nd.left = z then 1 else 0) + (if e.nd.right = z then 1 else 0)
def Sb.refs (σ : Sb) (z : Int) : Nat := (σ.slots.map fun e => e.pts z).sum
def En.occ (e : En) : Nat := if e.count = 0 then 0 else 1
def Sb.In (σ : Sb) (z : Int) : Prop := ∃ i : Nat, i < σ.slots.length ∧ z = (i : Int) + 1
structure Sb.Inv (σ : Sb) (R T : List Int) : Prop where
  ok : σ.Ok
  nice : σ.Nice
  count : ∀ (i : Nat) (h : i < σ.slots.length), σ.slots[i].count = ((R.count ((i : Int) + 1) + T.count ((i : Int) + 1) + σ.refs ((i : Int) + 1) : Nat) : Int)
  held : ∀ (i : Nat) (h : i < σ.slots.length), σ.slots[i].nd.held = ((R.count ((i : Int) + 1) : Nat) : Int)
  free : ∀ (i : Nat) (h : i < σ.slots.length), σ.slots[i].count = 0 → σ.slots[i].nd = Nd.z
  used : σ.used = (σ.slots.map En.occ).sum
  root : ∀ z ∈ R, σ.In z
  todo : ∀ z ∈ T, σ.In z
  left : ∀ (i : Nat) (h : i < σ.slots.length), σ.slots[i].nd.left = 0 ∨ σ.In σ.slots[i].nd.left
  right : ∀ (i : Nat) (h : i < σ.slots.length), σ.slots[i].nd.right = 0 ∨ σ.In σ.slots[i].nd.right
inductive Sb.Live (σ : Sb) (R : List Int) : Int → Prop
  | root (z : Int) : z ∈ R → Sb.Live σ R z
  | left (i : Nat) (h : i < σ.slots.length) : Sb.Live σ R ((i : Int) + 1) → σ.slots[i].nd.left ≠ 0 → Sb.Live σ R σ.slots[i].nd.left
  | right (i : Nat) (h : i < σ.slots.length) : Sb.Live σ R ((i : Int) + 1) → σ.slots[i].nd.right ≠ 0 → Sb.Live σ R σ.slots[i].nd.right
def Sb.Keeps (σ : Sb) (R : List Int) (σ' : Sb) : Prop := ∀ (i : Nat) (h : i < σ.slots.length), σ.Live R ((i : Int) + 1) → ∃ h' : i < σ'.slots.length, σ'.slots[i].nd = { σ.slots[i].nd with held := σ'.slots[i].nd.held } ∧ σ'.slots[i].val = σ.slots[i].val
section
variable {σ σ' : Sb} {R T : List Int}
theorem Sb.Keeps.refl (σ : Sb) (R : List Int) : σ.Keeps R σ := fun i h _ => ⟨h, rfl, rfl⟩
theorem Sb.refs_left (i : Nat) (h : i < σ.slots.length) : 1 ≤ σ.refs σ.slots[i].nd.left := by
  refine Nat.le_trans ?_ (xpn (fun e => En.pts e σ.slots[i].nd.left) σ.slots i h); simp [En.pts]
theorem Sb.refs_right (i : Nat) (h : i < σ.slots.length) : 1 ≤ σ.refs σ.slots[i].nd.right := by
  refine Nat.le_trans ?_ (xpn (fun e => En.pts e σ.slots[i].nd.right) σ.slots i h); simp [En.pts]
theorem Sb.Keeps.busy {σ0 : Sb} (hk : σ0.Keeps R σ) (h0 : ∀ (i : Nat) (h : i < σ0.slots.length), (σ0.slots[i].nd.left = 0 ∨ σ0.In σ0.slots[i].nd.left) ∧ (σ0.slots[i].nd.right = 0 ∨ σ0.In σ0.slots[i].nd.right)) {z : Int} (hl : σ0.Live R z) : 1 ≤ R.count z + σ.refs z := by
  cases hl with
  | root _ hz => have := List.count_pos_iff.2 hz; omega
  | left i hi hl _ =>
    obtain ⟨h', e, _⟩ := hk i hi hl; have h1 := Sb.refs_left (σ := σ) i h'; rw [e] at h1; have h1 : 1 ≤ σ.refs σ0.slots[i].nd.left := h1; omega
  | right i hi hl _ =>
    obtain ⟨h', e, _⟩ := hk i hi hl; have h1 := Sb.refs_right (σ := σ) i h'; rw [e] at h1; have h1 : 1 ≤ σ.refs σ0.slots[i].nd.right := h1; omega
theorem Sb.Inv.used_pos (h : σ.Inv R T) (i : Nat) (hi : i < σ.slots.length) (hc : σ.slots[i].count ≠ 0) : 1 ≤ σ.used := by
  rw [h.used]; refine Nat.le_trans ?_ (xpn En.occ σ.slots i hi); simp [En.occ, hc]
theorem Sb.refs_put (i : Nat) (hi : i < σ.slots.length) (e : En) (z : Int) : (σ.put i e).refs z + σ.slots[i].pts z = σ.refs z + e.pts z := xd6 (fun e => En.pts e z) σ.slots i e hi
theorem Sb.refs_same (i : Nat) (hi : i < σ.slots.length) (e : En) (h1 : e.nd.left = σ.slots[i].nd.left) (h2 : e.nd.right = σ.slots[i].nd.right) (z : Int) : (σ.put i e).refs z = σ.refs z := by
  have := Sb.refs_put i hi e z; unfold En.pts at this; rw [h1, h2] at this; omega
theorem Sb.put_at (i j : Nat) (e : En) (hj : j < (σ.put i e).slots.length) : (σ.put i e).slots[j] = if i = j then e else σ.slots[j]'(by rw [xbr] at hj; exact hj) := by
  simp only [Sb.put, List.getElem_set]
theorem Sb.put_in (i : Nat) (e : En) {z : Int} : (σ.put i e).In z ↔ σ.In z := by unfold Sb.In; rw [xbr]
theorem Sb.Inv.stay (h : σ.Inv R T) (T' : List Int) (i : Nat) (hi : i < σ.slots.length) (hc : 1 < σ.slots[i].count) (hT : ∀ z, T.count z = T'.count z + if z = (i : Int) + 1 then 1 else 0) :
    (σ.put i ⟨σ.slots[i].nd, σ.slots[i].count - 1, σ.slots[i].val⟩).Inv R T' := by
  have hr : ∀ z, (σ.put i ⟨σ.slots[i].nd, σ.slots[i].count - 1, σ.slots[i].val⟩).refs z = σ.refs z := fun z => Sb.refs_same i hi (e := _) (h1 := by exact rfl) (h2 := by exact rfl) z
  refine ⟨Sb.put_ok h.ok i _, ⟨h.nice.nd, fun n hn hlt => ?_⟩, fun j hj => ?_, fun j hj => ?_, fun j hj => ?_, ?_, fun z hz => (Sb.put_in i _).2 (h.root z hz), fun z hz => ?_, fun j hj => ?_, fun j hj => ?_⟩
  · rw [Sb.put_at]
    rw [xbr] at hlt
    split
    · next e => have := h.nice.z n hn hlt; subst e; omega
    · exact h.nice.z n hn hlt
  · rw [Sb.put_at, hr]
    rw [xbr] at hj; have h1 := h.count j hj; have h2 := hT ((j : Int) + 1)
    split
    · next e =>
      subst e; simp only [if_true] at h2; show σ.slots[i].count - 1 = _; omega
    · next e =>
      rw [if_neg (by omega)] at h2; omega
  · rw [Sb.put_at]
    rw [xbr] at hj
    split
    · next e => subst e; exact h.held i hi
    · exact h.held j hj
  · rw [Sb.put_at]
    rw [xbr] at hj
    split
    · next e =>
      subst e; intro e0; have e0 : σ.slots[i].count - 1 = 0 := e0; omega
    · exact h.free j hj
  · have h1 := xd6 En.occ σ.slots i ⟨σ.slots[i].nd, σ.slots[i].count - 1, σ.slots[i].val⟩ hi
    have h2 := h.used; have e1 : En.occ ⟨σ.slots[i].nd, σ.slots[i].count - 1, σ.slots[i].val⟩ = 1 := if_neg (show ¬ σ.slots[i].count - 1 = 0 by omega); have e2 : En.occ σ.slots[i] = 1 := if_neg (by omega); show σ.used = ((σ.slots.set i _).map En.occ).sum; omega
  · refine (Sb.put_in i _).2 (h.todo z ?_)
    refine List.count_pos_iff.1 ?_; have := List.count_pos_iff.2 hz; have := hT z; omega
  · rw [Sb.put_at, Sb.put_in]
    rw [xbr] at hj
    split
    · next e => subst e; exact h.left i hi
    · exact h.left j hj
  · rw [Sb.put_at, Sb.put_in]
    rw [xbr] at hj
    split
    · next e => subst e; exact h.right i hi
    · exact h.right j hj
theorem Sb.Keeps.put {σ0 : Sb} (hk : σ0.Keeps R σ) (i : Nat) (hi : i < σ.slots.length) (c : Int) : σ0.Keeps R (σ.put i ⟨σ.slots[i].nd, c, σ.slots[i].val⟩) := fun j hj hl => by
  obtain ⟨h', e1, e2⟩ := hk j hj hl; refine ⟨by rw [xbr]; exact h', ?_⟩; rw [Sb.put_at]
  split
  · next e => subst e; exact ⟨e1, e2⟩
  · exact ⟨e1, e2⟩
theorem Sb.Inv.go (h : σ.Inv R T) (T' : List Int) (i : Nat) (hi : i < σ.slots.length) (hc : σ.slots[i].count = 1) (h1 : 1 ≤ T.count ((i : Int) + 1)) (hT : ∀ z, T'.count z + (if z = (i : Int) + 1 then 1 else 0) = T.count z + (if z = 0 then 0 else σ.slots[i].pts z)) :
    (σ.letGo i).Inv R T' := by
  have hcz := h.count i hi; have hR0 : R.count ((i : Int) + 1) = 0 := by omega
  have hF0 : σ.refs ((i : Int) + 1) = 0 := by omega
  have hT1 : T.count ((i : Int) + 1) = 1 := by omega
  have hr : ∀ z, z ≠ 0 → (σ.letGo i).refs z + σ.slots[i].pts z = σ.refs z := fun z hz => by
    have := xd6 (fun e => En.pts e z) σ.slots i ⟨Nd.z, 0, []⟩ hi
    have e0 : En.pts ⟨Nd.z, 0, []⟩ z = 0 := by
      have h3 : ¬ (0 : Int) = z := fun e => hz e.symm
      show (if (0 : Int) = z then 1 else 0) + (if (0 : Int) = z then 1 else 0) = 0; rw [if_neg h3]
    have h4 : (σ.letGo i).refs z + σ.slots[i].pts z = σ.refs z + En.pts ⟨Nd.z, 0, []⟩ z := this; omega
  have hlen : (σ.letGo i).slots.length = σ.slots.length := by simp [Sb.letGo]
  have hat : ∀ (j : Nat) (hj : j < (σ.letGo i).slots.length), (σ.letGo i).slots[j] = if i = j then ⟨Nd.z, 0, []⟩ else σ.slots[j]'(by rw [hlen] at hj; exact hj) := fun j hj => by simp only [Sb.letGo, List.getElem_set]
  have hin : ∀ z, (σ.letGo i).In z ↔ σ.In z := fun z => by unfold Sb.In; rw [hlen]
  have hnf : (i + 1) ∉ σ.free := fun hm => by have := h.nice.z (i + 1) hm (by simpa using hi); simp only [Nat.add_sub_cancel] at this; omega
  have hu := h.used_pos i hi (by omega); refine ⟨Sb.letGo_ok h.ok i hi hu, ⟨?_, fun n hn hlt => ?_⟩, fun j hj => ?_, fun j hj => ?_, fun j hj => ?_, ?_, fun z hz => (hin z).2 (h.root z hz), fun z hz => ?_, fun j hj => ?_, fun j hj => ?_⟩
  · show (σ.free ++ [i + 1]).Nodup
    rw [List.nodup_append]; exact ⟨h.nice.nd, by simp, fun a ha b hb e => hnf (by simp at hb; subst hb; subst e; exact ha)⟩
  · rw [hat]
    split
    · rfl
    · next e =>
      have hn : n ∈ σ.free ++ [i + 1] := hn; rw [List.mem_append, List.mem_singleton] at hn; rcases hn with hn | rfl
      · exact h.nice.z n hn (by rw [hlen] at hlt; exact hlt)
      · exact absurd (by simp) e
  · rw [hat]
    rw [hlen] at hj; have a1 := h.count j hj; have a2 := hT ((j : Int) + 1); rw [if_neg (show ¬ (j : Int) + 1 = 0 by omega)] at a2; have a3 := hr ((j : Int) + 1) (by omega)
    split
    · next e =>
      subst e; simp only [if_true] at a2; show (0 : Int) = _; omega
    · next e =>
      rw [if_neg (show ¬ (j : Int) + 1 = (i : Int) + 1 by omega)] at a2; omega
  · rw [hat]
    rw [hlen] at hj
    split
    · next e => subst e; rw [hR0]; rfl
    · exact h.held j hj
  · rw [hat]
    rw [hlen] at hj
    split
    · intro _; rfl
    · exact h.free j hj
  · have b1 := xd6 En.occ σ.slots i ⟨Nd.z, 0, []⟩ hi
    have b2 := h.used; have e1 : En.occ ⟨Nd.z, 0, []⟩ = 0 := rfl; have e2 : En.occ σ.slots[i] = 1 := if_neg (by omega); show σ.used - 1 = ((σ.slots.set i _).map En.occ).sum; omega
  · rw [hin]
    have c1 := List.count_pos_iff.2 hz; have c2 := hT z; by_cases hz0 : z = 0
    · subst hz0
      rw [if_pos rfl, if_neg (by omega)] at c2; exact h.todo 0 (List.count_pos_iff.1 (by omega))
    · rw [if_neg hz0] at c2
      by_cases hp : σ.slots[i].pts z = 0
      · exact h.todo z (List.count_pos_iff.1 (by omega))
      · unfold En.pts at hp
        by_cases el : σ.slots[i].nd.left = z
        · subst el; exact (h.left i hi).resolve_left hz0
        · by_cases er : σ.slots[i].nd.right = z
          · subst er; exact (h.right i hi).resolve_left hz0
          · simp [el, er] at hp
  · rw [hat, hin]
    rw [hlen] at hj
    split
    · exact .inl rfl
    · exact h.left j hj
  · rw [hat, hin]
    rw [hlen] at hj
    split
    · exact .inl rfl
    · exact h.right j hj
theorem Sb.Keeps.go {σ0 : Sb} (hk : σ0.Keeps R σ) (h0 : ∀ (i : Nat) (h : i < σ0.slots.length), (σ0.slots[i].nd.left = 0 ∨ σ0.In σ0.slots[i].nd.left) ∧ (σ0.slots[i].nd.right = 0 ∨ σ0.In σ0.slots[i].nd.right)) (h : σ.Inv R T) (i : Nat) (hi : i < σ.slots.length) (hc : σ.slots[i].count = 1) (h1 : 1 ≤ T.count ((i : Int) + 1)) :
    σ0.Keeps R (σ.letGo i) := fun j hj hl => by
  obtain ⟨h', e1, e2⟩ := hk j hj hl; have hb := hk.busy h0 hl; have hcz := h.count i hi; have hne : i ≠ j := fun e => by subst e; omega
  refine ⟨by simpa [Sb.letGo] using h', ?_⟩; have hat : (σ.letGo i).slots[j]'(by simpa [Sb.letGo] using h') = σ.slots[j] := by simp only [Sb.letGo, List.getElem_set]; rw [if_neg hne]
  rw [hat]; exact ⟨e1, e2⟩
theorem Sb.Inv.part (h : σ.Inv R T) (R' : List Int) (i : Nat) (hi : i < σ.slots.length) (hR : ∀ z, R.count z = R'.count z + if z = (i : Int) + 1 then 1 else 0) :
    (σ.put i ⟨{ σ.slots[i].nd with held := σ.slots[i].nd.held + -1 }, σ.slots[i].count, σ.slots[i].val⟩).Inv R' (((i : Int) + 1) :: T) := by
  have hr : ∀ z, (σ.put i ⟨{ σ.slots[i].nd with held := σ.slots[i].nd.held + -1 }, σ.slots[i].count, σ.slots[i].val⟩).refs z = σ.refs z := fun z => Sb.refs_same i hi (e := _) (h1 := by exact rfl) (h2 := by exact rfl) z
  have hpos : σ.slots[i].count ≠ 0 := by
    have h1 := h.count i hi; have h2 := hR ((i : Int) + 1); simp only [if_true] at h2; omega
  refine ⟨Sb.put_ok h.ok i _, ⟨h.nice.nd, fun n hn hlt => ?_⟩, fun j hj => ?_, fun j hj => ?_, fun j hj => ?_, ?_, fun z hz => (Sb.put_in i _).2 (h.root z ?_), fun z hz => (Sb.put_in i _).2 ?_, fun j hj => ?_, fun j hj => ?_⟩
  · rw [Sb.put_at]
    rw [xbr] at hlt
    split
    · next e => have := h.nice.z n hn hlt; subst e; exact this
    · exact h.nice.z n hn hlt
  · rw [Sb.put_at, hr]
    rw [xbr] at hj; have h1 := h.count j hj; have h2 := hR ((j : Int) + 1); rw [List.count_cons]
    split
    · next e =>
      subst e; simp only [if_true, beq_self_eq_true] at h2 ⊢; show σ.slots[i].count = _; omega
    · next e =>
      rw [if_neg (by omega)] at h2; rw [if_neg (by simp; omega)]; omega
  · rw [Sb.put_at]
    rw [xbr] at hj; have h1 := h.held j hj; have h2 := hR ((j : Int) + 1)
    split
    · next e =>
      subst e; simp only [if_true] at h2; show σ.slots[i].nd.held + -1 = _; omega
    · next e =>
      rw [if_neg (by omega)] at h2; omega
  · rw [Sb.put_at]
    rw [xbr] at hj
    split
    · next e => subst e; exact fun e0 => absurd e0 hpos
    · exact h.free j hj
  · have h1 := xd6 En.occ σ.slots i ⟨{ σ.slots[i].nd with held := σ.slots[i].nd.held + -1 }, σ.slots[i].count, σ.slots[i].val⟩ hi
    have h2 := h.used; have e1 : En.occ ⟨{ σ.slots[i].nd with held := σ.slots[i].nd.held + -1 }, σ.slots[i].count, σ.slots[i].val⟩ = En.occ σ.slots[i] := rfl; show σ.used = ((σ.slots.set i _).map En.occ).sum; omega
  · refine List.count_pos_iff.1 ?_
    have := List.count_pos_iff.2 hz; have := hR z; omega
  · rcases List.mem_cons.1 hz with rfl | hz
    · exact ⟨i, hi, rfl⟩
    · exact h.todo z hz
  · rw [Sb.put_at, Sb.put_in]
    rw [xbr] at hj
    split
    · next e => subst e; exact h.left i hi
    · exact h.left j hj
  · rw [Sb.put_at, Sb.put_in]
    rw [xbr] at hj
    split
    · next e => subst e; exact h.right i hi
    · exact h.right j hj
end
theorem built293 (a b : Int) : Tryz.prog.built 293 [(0, .int .i64 a), (1, .int .i64 b)] = some #[.int .i64 a, .int .i64 b] := by
  have h1 : (Tryz.prog.info? 293).map (·.zero) = some (some (.agg #[.int .i64 0, .int .i64 0])) := by kernel_rfl
  have h2 := one3
  cases hq : Tryz.prog.info? 293 with
  | none => simp [hq] at h1
  | some it =>
    cases hr : Tryz.prog.info? 3 with
    | none => simp [hr] at h2
    | some ie =>
      have e1 : it.zero = some (.agg #[.int .i64 0, .int .i64 0]) := by simpa [hq] using h1
      have e2 : ie.size = 1 := by simpa [hr] using h2
      simp only [Program.built, Tryz.underlying293, hq, hr, e1, e2]; rfl
theorem xsp {w : World} {a : Act} {o : Oper} (x y : Operand) (ho : o.op = .build 293 #[(0, x), (1, y)]) (p q : Int) (hx : a.eval x = .int .i64 p) (hy : a.eval y = .int .i64 q) :
    (execOp a.eval o).run Tryz.prog w = .ok (.value (.agg #[.int .i64 p, .int .i64 q])) w := by
  refine xcu #[(0, x), (1, y)] ho _ ?_; have e : ((#[(0, x), (1, y)] : Array (Nat × Operand)).map fun (i, x) => (i, a.eval x)).toList = [(0, .int .i64 p), (1, .int .i64 q)] := by simp [hx, hy]
  rw [e]; exact built293 p q
theorem xhg {w : World} {a : Act} {o : Oper} (x y : Operand) (ho : o.op = .index 293 x y) (p q : Int) (i : Nat) (k : IntKind) (r : Int) (hx : a.eval x = .agg #[.int .i64 p, .int .i64 q]) (hy : a.eval y = .int k (i : Int)) (hi : i < 2) (e : [p, q][i]? = some r) :
    (execOp a.eval o).run Tryz.prog w = .ok (.value (.int .i64 r)) w := by
  have h1 : (#[Value.int .i64 p, Value.int .i64 q])[i]? = some (.int .i64 r) := by
    rcases i with _ | _ | i
    · simpa using e
    · simpa using e
    · omega
  have h2 : (i : Int) < 2 := by omega
  have ha : (isAgg 3).run Tryz.prog w = .ok false w := by
    unfold isAgg; rw [Sem.run_bind, run_underlying Tryz.underlying3 w]; rfl
  have hz : (sizeOf 3).run Tryz.prog w = .ok 1 w := by
    have hs := one3
    cases hq : Tryz.prog.info? 3 with
    | none => simp [hq] at hs
    | some j =>
      simp [hq] at hs; simp [sizeOf, typeInfo, hq, hs]
  have hp : (part 3 #[.int .i64 p, .int .i64 q] i).run Tryz.prog w = .ok (.int .i64 r) w := by
    unfold part; rw [Sem.run_bind, ha]; simp [h1]
  have hr : (Instr.index 293 (.agg #[.int .i64 p, .int .i64 q]) (.int k (i : Int))).run Tryz.prog w = .ok (.int .i64 r) w := by
    simp [Instr.index, run_underlying Tryz.underlying293, asIntOf, h2, hz, hp]; intro h; omega
  unfold execOp; simp only [ho, hx, hy, Sem.run_bind, hr, Result.andThen_ok, Sem.run_pure]
def xcy (l : List Int) : List Value := l.map (Value.int .i64)
theorem xh4 (l : List Int) : (xcy l).length = l.length := by simp [xcy]
theorem xdn (l m : List Int) : xcy (l ++ m) = xcy l ++ xcy m := by simp [xcy]
theorem Gw.short {E z n m : Nat} {G : List (Nat × Nat × List Value)} {v : Sv} {xs ys : List Value} (h : Gw E z G v n (xs ++ ys)) (hx : xs.length = m * z) (hm : m ≤ n) (h0 : 0 < n) : Gw E z G ⟨v.A, m, v.c⟩ m xs := by
  obtain ⟨hl, ⟨_, _, rfl⟩ | ⟨g, cap, tl, rfl, rfl, h1, h2, h3⟩⟩ := h
  · omega
  · exact ⟨hx, .inr ⟨g, cap, ys ++ tl, by rw [List.append_assoc], rfl, by omega, h2, by rw [← List.append_assoc]; exact h3⟩⟩
theorem Gw.some {E z n : Nat} {G : List (Nat × Nat × List Value)} {v : Sv} {xs : List Value} (h : Gw E z G v n xs) (h0 : 0 < n) : ∃ g tl cap, G = [(g, E, xs ++ tl)] ∧ v = ⟨some ⟨g, 0, none⟩, n, cap⟩ ∧ n ≤ cap := by
  obtain ⟨hl, ⟨_, _, rfl⟩ | ⟨g, cap, tl, rfl, rfl, h1, h2, h3⟩⟩ := h
  · omega
  · exact ⟨g, tl, cap, rfl, rfl, h1⟩
theorem Sb.refs_le (σ : Sb) (z : Int) : σ.refs z ≤ 2 * σ.slots.length := by
  unfold Sb.refs
  induction σ.slots with
  | nil => simp
  | cons e l ih =>
    simp only [qk, List.sum_cons, qr]; have : e.pts z ≤ 2 := by unfold En.pts; split <;> split <;> omega
    omega
theorem Sb.Inv.count_le {σ : Sb} {R T : List Int} (h : σ.Inv R T) (i : Nat) (hi : i < σ.slots.length) : σ.slots[i].count ≤ ((R.length + T.length + 2 * σ.slots.length : Nat) : Int) := by
  have h1 := h.count i hi; have h2 := σ.refs_le ((i : Int) + 1); have h3 := List.count_le_length (a := (i : Int) + 1) (l := R); have h4 := List.count_le_length (a := (i : Int) + 1) (l := T); omega
theorem Sb.Inv.held_le {σ : Sb} {R T : List Int} (h : σ.Inv R T) (i : Nat) (hi : i < σ.slots.length) : 0 ≤ σ.slots[i].nd.held ∧ σ.slots[i].nd.held ≤ (R.length : Int) := by
  have h1 := h.held i hi; have h3 := List.count_le_length (a := (i : Int) + 1) (l := R); omega
def xk7 : Value → Nat
  | .slice _ n _ => n
  | _ => 0
def Drpd (D : Nat → Prop) (w : World) (gs g : Nat) (σ : Sb) (R : List Int) (e : Ending) (w' : World) : Prop :=
  ∃ (m : Int) (D' : Nat → Prop) (vs' vf' : Sv) (σ' : Sb), e = .returned (.tuple #[.int .i64 m, .int .i64 0]) ∧ StP D' w' gs g σ' vs' vf' ∧ Stp D w D' w' ∧ σ'.Inv R [] ∧ σ.Keeps R σ' ∧ σ'.used ≤ σ.used ∧ σ'.room = σ.room ∧ σ'.slots.length = σ.slots.length
def DrL (D : Nat → Prop) (w0 : World) (gs g : Nat) (σ : Sb) (R : List Int) (a b : Value) (wr : World) : Prop :=
  ∃ (f : Nat) (sv : Sv) (T : List Int) (G : List (Nat × Nat × List Value)) (D1 : Nat → Prop) (vs1 vf1 : Sv) (σ1 : Sb), a = .int .i64 (f : Int) ∧ b = sv.v ∧ f + σ1.used = σ.used ∧ T.length ≤ 1 + f ∧ StP D1 wr gs g σ1 vs1 vf1 ∧ Stp D w0 D1 wr ∧ σ1.Inv R T ∧ σ.Keeps R σ1 ∧
    σ1.room = σ.room ∧ σ1.slots.length = σ.slots.length ∧ Gw 3 1 G sv T.length (xcy T) ∧ Loc wr (Rest wr (G ++ [])) (G ++ []) wr ∧ (∀ k, D1 k → Rest wr (G ++ []) k) ∧ (∀ y ∈ G, w0.heap.size ≤ y.1)
theorem Stp.after {D D1 : Nat → Prop} {w0 wr w : World} {G L : List (Nat × Nat × List Value)} (h : Stp D w0 D1 wr) (H : Loc wr (Rest wr G) L w) (hG : ∀ y ∈ G, w0.heap.size ≤ y.1) : Stp D w0 D1 w :=
  ⟨h.new, h.old, ⟨H.fr.os.trans h.fr.os, H.fr.tape.trans h.fr.tape, H.fr.output.trans h.fr.output, Nat.le_trans h.fr.size H.fr.size, fun k hk hn =>
    (H.fr.block k (Nat.lt_of_lt_of_le hk h.fr.size) (fun n => n ⟨Nat.lt_of_lt_of_le hk h.fr.size, fun y hy e => by have := hG y hy; omega⟩)).trans (h.fr.block k hk hn)⟩⟩
theorem Sb.Keeps.held {σ : Sb} {R : List Int} (i : Nat) (hi : i < σ.slots.length) (b : Int) : σ.Keeps R (σ.put i ⟨{ σ.slots[i].nd with held := b }, σ.slots[i].count, σ.slots[i].val⟩) := fun j hj hl => by
  refine ⟨by rw [xbr]; exact hj, ?_⟩; rw [Sb.put_at]
  split
  · next e => subst e; exact ⟨rfl, rfl⟩
  · exact ⟨rfl, rfl⟩
section
variable {σ σ' : Sb} {R T : List Int}
theorem Sb.Inv.refs_out (h : σ.Inv R T) {z : Int} (hz : z ≠ 0) (hn : ¬ σ.In z) : σ.refs z = 0 := by
  refine sum_zero _ _ fun e he => ?_
  obtain ⟨i, hi, rfl⟩ := List.getElem_of_mem he; unfold En.pts; rw [if_neg (fun e => by rcases h.left i hi with h1 | h1; exact hz (e ▸ h1); exact hn (e ▸ h1)), if_neg (fun e => by rcases h.right i hi with h1 | h1; exact hz (e ▸ h1); exact hn (e ▸ h1))]
theorem Sb.Inv.taken (h : σ.Inv R T) (e : En) : ∃ i0 : Nat, σ.next = i0 + 1 ∧ (σ.take e).room = σ.room ∧ (σ.take e).used = σ.used + 1 ∧ σ.slots.length ≤ (σ.take e).slots.length ∧ (∃ h0 : i0 < (σ.take e).slots.length, (σ.take e).slots[i0] = e) ∧
    (∀ (k : Nat) (hk : k < (σ.take e).slots.length), k ≠ i0 → ∃ h1 : k < σ.slots.length, (σ.take e).slots[k] = σ.slots[k]) ∧ (∀ (k : Nat) (hk : k < σ.slots.length), k = i0 → σ.slots[k].count = 0) ∧
    (∀ z : Int, z ≠ 0 → (σ.take e).refs z = σ.refs z + e.pts z) ∧ (e.count = 1 → (((σ.take e).slots.map En.occ).sum = (σ.slots.map En.occ).sum + 1)) ∧ R.count ((i0 : Int) + 1) = 0 ∧ T.count ((i0 : Int) + 1) = 0 ∧ σ.refs ((i0 : Int) + 1) = 0 ∧
    (σ.take e).free.Nodup ∧ (∀ n ∈ (σ.take e).free, n ∈ σ.free ∧ n ≠ i0 + 1) := by
  cases hl : σ.free.getLast? with
  | none =>
    have hf : σ.free = [] := List.getLast?_eq_none_iff.1 hl; have ht : σ.take e = σ.takeN e := by unfold Sb.take; rw [hl]
    have hx : σ.next = σ.slots.length + 1 := by unfold Sb.next; rw [hl]
    have hno : ¬ σ.In ((σ.slots.length : Int) + 1) := fun ⟨i, hi, he⟩ => by omega
    refine ⟨σ.slots.length, hx, by rw [ht]; rfl, by rw [ht]; rfl, by rw [ht]; simp [Sb.takeN], ⟨by rw [ht]; simp [Sb.takeN], by simp [ht, Sb.takeN]⟩, fun k hk hne => ?_, fun k hk he => by omega, fun z hz => ?_, fun he => ?_, ?_, ?_, h.refs_out (by omega) hno, by rw [ht]; exact h.nice.nd, fun n hn => ?_⟩
    · have hk2 : k < σ.slots.length := by rw [ht] at hk; simp [Sb.takeN] at hk; omega
      exact ⟨hk2, by simp [ht, Sb.takeN, List.getElem_append_left hk2]⟩
    · rw [ht]; simp [Sb.refs, Sb.takeN]
    · rw [ht]; simp [Sb.takeN, En.occ, he]
    · exact List.count_eq_zero.2 fun hm => hno (h.root _ hm)
    · exact List.count_eq_zero.2 fun hm => hno (h.todo _ hm)
    · rw [ht] at hn
      have hn : n ∈ σ.free := hn; rw [hf] at hn; cases hn
  | some k0 =>
    obtain ⟨fl, hfl⟩ : ∃ fl, σ.free = fl ++ [k0] := List.getLast?_eq_some_iff.1 hl; have hk0 := h.ok.fr k0 (by rw [hfl]; simp); obtain ⟨i0, rfl⟩ : ∃ i0, k0 = i0 + 1 := ⟨k0 - 1, by omega⟩; have hi0 : i0 < σ.slots.length := by omega
    have hc0 : σ.slots[i0].count = 0 := by have := h.nice.z (i0 + 1) (by rw [hfl]; simp) (by simpa using hi0); simpa using this
    have hn0 := h.free i0 hi0 hc0; have ht : σ.take e = σ.takeF i0 e := by unfold Sb.take; rw [hl]; rfl
    have hx : σ.next = i0 + 1 := by unfold Sb.next; rw [hl]
    have hcz := h.count i0 hi0; rw [hc0] at hcz; have hnd := h.nice.nd; rw [hfl, List.nodup_append] at hnd; refine ⟨i0, hx, by rw [ht]; rfl, by rw [ht]; rfl, by rw [ht]; simp [Sb.takeF], ⟨by rw [ht]; simpa [Sb.takeF] using hi0, by simp [ht, Sb.takeF]⟩, fun k hk hne => ?_, fun k hk he => by subst he; exact hc0, fun z hz => ?_, fun he => ?_, by omega, by omega, by omega, ?_, fun n hn => ?_⟩
    · have hk2 : k < σ.slots.length := by rw [ht] at hk; simpa [Sb.takeF] using hk
      refine ⟨hk2, ?_⟩; simp only [ht, Sb.takeF, List.getElem_set]; rw [if_neg (fun e => hne e.symm)]
    · rw [ht]
      have h1 := xd6 (fun e => En.pts e z) σ.slots i0 e hi0
      have h2 : En.pts σ.slots[i0] z = 0 := by
        unfold En.pts; rw [hn0]; show (if (0 : Int) = z then 1 else 0) + (if (0 : Int) = z then 1 else 0) = 0; rw [if_neg (fun e => hz e.symm)]
      have h3 : (σ.takeF i0 e).refs z + En.pts σ.slots[i0] z = σ.refs z + e.pts z := h1; omega
    · rw [ht]
      have h1 := xd6 En.occ σ.slots i0 e hi0; have h2 : En.occ σ.slots[i0] = 0 := by simp [En.occ, hc0]
      have h3 : En.occ e = 1 := by simp [En.occ, he]
      show ((σ.slots.set i0 e).map En.occ).sum = _; omega
    · rw [ht]
      show σ.free.dropLast.Nodup; rw [hfl]; simpa using hnd.1
    · rw [ht] at hn
      have hn : n ∈ σ.free.dropLast := hn; rw [hfl] at hn; simp only [List.dropLast_concat] at hn; refine ⟨by rw [hfl]; simp [hn], fun e => ?_⟩; exact hnd.2.2 n hn (i0 + 1) (by simp) e
theorem Sb.Inv.take (h : σ.Inv R T) (e : En) (hok : (σ.take e).Ok) (T' : List Int) (hc : e.count = 1) (hh : e.nd.held = 1) (hl : e.nd.left = 0 ∨ σ.In e.nd.left) (hr : e.nd.right = 0 ∨ σ.In e.nd.right) (hT : ∀ z, T.count z = T'.count z + if z = 0 then 0 else e.pts z) :
    (σ.take e).Inv ((σ.next : Int) :: R) T' ∧ σ.Keeps R (σ.take e) := by
  obtain ⟨i0, hx, hrm, hus, hlen, ⟨hi0, hat0⟩, hat, hz0, hrefs, hocc, hR0, hT0, hF0, hnd, hfr⟩ := h.taken e; have hin : ∀ z, σ.In z → (σ.take e).In z := fun z ⟨i, hi, he⟩ => ⟨i, by omega, he⟩
  have hxi : (σ.next : Int) = (i0 : Int) + 1 := by rw [hx]; omega
  refine ⟨⟨hok, ⟨hnd, fun n hn hlt => ?_⟩, fun k hk => ?_, fun k hk => ?_, fun k hk => ?_, ?_, fun z hz => ?_, fun z hz => ?_, fun k hk => ?_, fun k hk => ?_⟩, fun k hk hl => ?_⟩
  · obtain ⟨h1, h2⟩ := hfr n hn
    have h3 := h.ok.fr n h1; obtain ⟨h4, h5⟩ := hat (n - 1) hlt (by omega); rw [h5]; exact h.nice.z n h1 h4
  · rw [hxi, List.count_cons, hrefs _ (by omega)]
    have t1 := hT ((k : Int) + 1); rw [if_neg (show ¬ (k : Int) + 1 = 0 by omega)] at t1; by_cases hk0 : k = i0
    · subst hk0
      rw [hat0, hc]; simp only [beq_self_eq_true, if_true]; omega
    · obtain ⟨h1, h2⟩ := hat k hk hk0
      rw [h2, if_neg (by simp; omega)]; have := h.count k h1; omega
  · rw [hxi, List.count_cons]
    by_cases hk0 : k = i0
    · subst hk0
      rw [hat0, hh]; simp only [beq_self_eq_true, if_true]; omega
    · obtain ⟨h1, h2⟩ := hat k hk hk0
      rw [h2, if_neg (by simp; omega)]; have := h.held k h1; omega
  · by_cases hk0 : k = i0
    · subst hk0
      rw [hat0, hc]; intro e; omega
    · obtain ⟨h1, h2⟩ := hat k hk hk0
      rw [h2]; exact h.free k h1
  · rw [hus, hocc hc, h.used]
  · rcases List.mem_cons.1 hz with rfl | hz
    · exact ⟨i0, hi0, hxi⟩
    · exact hin z (h.root z hz)
  · refine hin z (h.todo z (List.count_pos_iff.1 ?_))
    have := List.count_pos_iff.2 hz; have := hT z; omega
  · by_cases hk0 : k = i0
    · subst hk0
      rw [hat0]; exact hl.imp_right (hin _)
    · obtain ⟨h1, h2⟩ := hat k hk hk0
      rw [h2]; exact (h.left k h1).imp_right (hin _)
  · by_cases hk0 : k = i0
    · subst hk0
      rw [hat0]; exact hr.imp_right (hin _)
    · obtain ⟨h1, h2⟩ := hat k hk hk0
      rw [h2]; exact (h.right k h1).imp_right (hin _)
  · have hne : k ≠ i0 := fun e => by
      subst e; have h1 := (Sb.Keeps.refl σ R).busy (fun i hi => ⟨h.left i hi, h.right i hi⟩) hl; omega
    obtain ⟨h1, h2⟩ := hat k (by omega) hne; exact ⟨by omega, by rw [h2], by rw [h2]⟩
theorem Sb.Inv.hold (h : σ.Inv R T) (i : Nat) (hi : i < σ.slots.length) (hc : σ.slots[i].count ≠ 0) : (σ.hold i hi).Inv (((i : Int) + 1) :: R) T ∧ σ.Keeps R (σ.hold i hi) := by
  have hr : ∀ z, (σ.hold i hi).refs z = σ.refs z := fun z => Sb.refs_same i hi (e := _) (h1 := by exact rfl) (h2 := by exact rfl) z
  have hlen : (σ.hold i hi).slots.length = σ.slots.length := xbr _ _ _; have hat : ∀ (j : Nat) (hj : j < (σ.hold i hi).slots.length), (σ.hold i hi).slots[j] = if i = j then ⟨{ σ.slots[i].nd with held := σ.slots[i].nd.held + 1 }, σ.slots[i].count + 1, σ.slots[i].val⟩ else σ.slots[j]'(by rw [hlen] at hj; exact hj) := fun j hj => Sb.put_at i j _ hj
  have hin : ∀ z, (σ.hold i hi).In z ↔ σ.In z := fun z => by unfold Sb.In; rw [hlen]
  have hpos : 0 ≤ σ.slots[i].count := by have := h.count i hi; omega
  refine ⟨⟨Sb.put_ok h.ok i _, ⟨h.nice.nd, fun n hn hlt => ?_⟩, fun j hj => ?_, fun j hj => ?_, fun j hj => ?_, ?_, fun z hz => (hin z).2 ?_, fun z hz => (hin z).2 (h.todo z hz), fun j hj => ?_, fun j hj => ?_⟩, fun j hj hl => ⟨by rw [hlen]; exact hj, ?_⟩⟩
  · rw [hat]
    rw [hlen] at hlt
    split
    · next e => have := h.nice.z n hn hlt; subst e; exact absurd this hc
    · exact h.nice.z n hn hlt
  · rw [hat, hr, List.count_cons]
    rw [hlen] at hj; have h1 := h.count j hj
    split
    · next e =>
      subst e; simp only [beq_self_eq_true, if_true]; omega
    · next e =>
      rw [if_neg (by simp; omega)]; omega
  · rw [hat, List.count_cons]
    rw [hlen] at hj; have h1 := h.held j hj
    split
    · next e =>
      subst e; simp only [beq_self_eq_true, if_true]; omega
    · next e =>
      rw [if_neg (by simp; omega)]; omega
  · rw [hat]
    rw [hlen] at hj
    split
    · next e =>
      intro e0; have e0 : σ.slots[i].count + 1 = 0 := e0; omega
    · exact h.free j hj
  · have h1 := xd6 En.occ σ.slots i ⟨{ σ.slots[i].nd with held := σ.slots[i].nd.held + 1 }, σ.slots[i].count + 1, σ.slots[i].val⟩ hi
    have h2 := h.used; have e1 : En.occ ⟨{ σ.slots[i].nd with held := σ.slots[i].nd.held + 1 }, σ.slots[i].count + 1, σ.slots[i].val⟩ = 1 := if_neg (show ¬ σ.slots[i].count + 1 = 0 by omega); have e2 : En.occ σ.slots[i] = 1 := if_neg hc; show σ.used = ((σ.slots.set i _).map En.occ).sum; omega
  · rcases List.mem_cons.1 hz with rfl | hz
    · exact ⟨i, hi, rfl⟩
    · exact h.root z hz
  · rw [hat, hin]
    rw [hlen] at hj
    split
    · next e => subst e; exact h.left i hi
    · exact h.left j hj
  · rw [hat, hin]
    rw [hlen] at hj
    split
    · next e => subst e; exact h.right i hi
    · exact h.right j hj
  · rw [hat]
    split
    · next e => subst e; exact ⟨rfl, rfl⟩
    · exact ⟨rfl, rfl⟩
theorem Sb.Keeps.trans {a b c : Sb} {R R2 : List Int} (h1 : a.Keeps R b) (h2 : b.Keeps R2 c) (hl : ∀ (i : Nat) (h : i < a.slots.length), a.Live R ((i : Int) + 1) → b.Live R2 ((i : Int) + 1)) : a.Keeps R c := fun i hi hv => by
  obtain ⟨p1, p2, p3⟩ := h1 i hi hv; obtain ⟨q1, q2, q3⟩ := h2 i p1 (hl i hi hv); exact ⟨q1, by rw [q2, p2], by rw [q3, p3]⟩
theorem Sb.Keeps.live {a b : Sb} {R R2 : List Int} (h : a.Keeps R b) (hR : ∀ z ∈ R, z ∈ R2) {z : Int} (hl : a.Live R z) : b.Live R2 z := by
  induction hl with
  | root z hz => exact .root z (hR z hz)
  | left i hi hl h0 ih =>
    obtain ⟨p1, p2, _⟩ := h i hi hl; have e : b.slots[i].nd.left = a.slots[i].nd.left := by rw [p2]
    rw [← e] at h0 ⊢; exact .left i p1 ih h0
  | right i hi hl h0 ih =>
    obtain ⟨p1, p2, _⟩ := h i hi hl; have e : b.slots[i].nd.right = a.slots[i].nd.right := by rw [p2]
    rw [← e] at h0 ⊢; exact .right i p1 ih h0
theorem Sb.Keeps.less {a b : Sb} {R R2 : List Int} (h : a.Keeps R b) (hR : ∀ z ∈ R2, z ∈ R) : a.Keeps R2 b := fun i hi hl => h i hi ((Sb.Keeps.refl a R2).live hR hl)
end
inductive Tre where
  | nil
  | leaf (k : D32) (v : List UInt8)
  | inner (l r : Tre)
namespace Tre
def dg : Tre → D32
  | nil => tagE
  | leaf k v => tagL k (tagV v)
  | inner l r => tagI l.dg r.dg
def size : Tre → Nat
  | nil => 0
  | leaf _ _ => 1
  | inner l r => l.size + r.size
def keys : Tre → List D32
  | nil => []
  | leaf k _ => [k]
  | inner l r => l.keys ++ r.keys
def knd : Tre → Nat
  | nil => 0
  | leaf _ _ => 1
  | inner _ _ => 2
def isIn : Tre → Bool
  | inner _ _ => true
  | _ => false
def Ok : Nat → Tre → Prop
  | _, nil => True
  | d, leaf _ v => v.length ≤ 1024 ∧ d ≤ 256
  | d, inner l r => d < 256 ∧ l.Ok (d + 1) ∧ r.Ok (d + 1) ∧ (∀ k ∈ l.keys, tb k.l d = false) ∧ (∀ k ∈ r.keys, tb k.l d = true) ∧ (∀ k ∈ l.keys ++ r.keys, ∀ k' ∈ l.keys ++ r.keys, ∀ e, e < d → tb k.l e = tb k'.l e) ∧
      (l.keys = [] → r.isIn = true ∧ l = nil) ∧ (r.keys = [] → l.isIn = true ∧ r = nil)
theorem Ok.ne {d : Nat} : ∀ {t : Tre}, t.Ok d → t.isIn = true → t.keys ≠ []
  | nil, _, h => by cases h
  | leaf _ _, _, h => by cases h
  | inner l r, h, _ => fun e => by
    simp only [keys, List.append_eq_nil_iff] at e; obtain ⟨_, h1, h2, _, _, _, h3, h4⟩ := h; obtain ⟨h5, _⟩ := h3 e.1; exact (Ok.ne h2 h5) e.2
end Tre
def IsT (σ : Sb) : Int → Nat → Tre → Prop
  | z, _, .nil => z = 0
  | z, _, .leaf k v => ∃ (i : Nat) (hi : i < σ.slots.length), z = (i : Int) + 1 ∧ σ.slots[i].count ≠ 0 ∧ σ.slots[i].val = v ∧ σ.slots[i].nd.kind = 1 ∧ σ.slots[i].nd.key = k ∧ σ.slots[i].nd.dig = tagL k (tagV v) ∧ σ.slots[i].nd.size = 1 ∧ σ.slots[i].nd.left = 0 ∧ σ.slots[i].nd.right = 0 ∧ v.length = σ.slots[i].nd.vs.n
  | z, d, .inner l r => ∃ (i : Nat) (hi : i < σ.slots.length), z = (i : Int) + 1 ∧ σ.slots[i].count ≠ 0 ∧ σ.slots[i].nd.kind = 2 ∧ σ.slots[i].nd.depth = (d : Int) ∧ σ.slots[i].nd.dig = tagI l.dg r.dg ∧ σ.slots[i].nd.size = ((l.size + r.size : Nat) : Int) ∧
      (∀ k ∈ l.keys ++ r.keys, ∀ e, e < d → tb σ.slots[i].nd.key.l e = tb k.l e) ∧ IsT σ σ.slots[i].nd.left (d + 1) l ∧ IsT σ σ.slots[i].nd.right (d + 1) r
section
variable {σ σ' : Sb} {R R' T T' : List Int}
theorem Sb.Inv.live_busy (h : σ.Inv R T) {i : Nat} (hi : i < σ.slots.length) (hl : σ.Live R ((i : Int) + 1)) : σ.slots[i].count ≠ 0 := by
  have h1 := (Sb.Keeps.refl σ R).busy (fun i hi => ⟨h.left i hi, h.right i hi⟩) hl; have h2 := h.count i hi; omega
theorem IsT.keep (hK : σ.Keeps R σ') (hI : σ'.Inv R' T') (hR : ∀ z ∈ R, z ∈ R') : ∀ {t : Tre} {z : Int} {d : Nat}, IsT σ z d t → (z = 0 ∨ σ.Live R z) → IsT σ' z d t
  | .nil, z, d, h, _ => h
  | .leaf k v, z, d, h, hl => by
    obtain ⟨i, hi, rfl, h1, h2, h3, h4, h5, h6, h7, h8, h9⟩ := h; have hl : σ.Live R ((i : Int) + 1) := hl.resolve_left (by omega); obtain ⟨p1, p2, p3⟩ := hK i hi hl; refine ⟨i, p1, rfl, hI.live_busy p1 (hK.live hR hl), by rw [p3, h2], ?_, ?_, ?_, ?_, ?_, ?_, ?_⟩ <;> (rw [p2]; assumption)
  | .inner l r, z, d, h, hl => by
    obtain ⟨i, hi, rfl, h1, h2, h3, h4, h5, h6, h7, h8⟩ := h; have hl : σ.Live R ((i : Int) + 1) := hl.resolve_left (by omega); obtain ⟨p1, p2, p3⟩ := hK i hi hl; have el : σ'.slots[i].nd.left = σ.slots[i].nd.left := by rw [p2]
    have er : σ'.slots[i].nd.right = σ.slots[i].nd.right := by rw [p2]
    have hll : σ.slots[i].nd.left = 0 ∨ σ.Live R σ.slots[i].nd.left := by
      by_cases h0 : σ.slots[i].nd.left = 0
      · exact .inl h0
      · exact .inr (.left i hi hl h0)
    have hlr : σ.slots[i].nd.right = 0 ∨ σ.Live R σ.slots[i].nd.right := by
      by_cases h0 : σ.slots[i].nd.right = 0
      · exact .inl h0
      · exact .inr (.right i hi hl h0)
    refine ⟨i, p1, rfl, hI.live_busy p1 (hK.live hR hl), ?_, ?_, ?_, ?_, ?_, ?_, ?_⟩
    · rw [p2]; exact h2
    · rw [p2]; exact h3
    · rw [p2]; exact h4
    · rw [p2]; exact h5
    · rw [p2]; exact h6
    · rw [el]; exact IsT.keep hK hI hR h7 hll
    · rw [er]; exact IsT.keep hK hI hR h8 hlr
theorem IsT.zero {d : Nat} {t : Tre} (h : IsT σ 0 d t) : t = .nil := by
  cases t with
  | nil => rfl
  | leaf k v => obtain ⟨i, _, e, _⟩ := h; omega
  | inner l r => obtain ⟨i, _, e, _⟩ := h; omega
theorem IsT.nz {z : Int} {d : Nat} {t : Tre} (h : IsT σ z d t) (hz : z ≠ 0) : ∃ (i : Nat) (hi : i < σ.slots.length), z = (i : Int) + 1 ∧ σ.slots[i].count ≠ 0 ∧ σ.slots[i].nd.dig = t.dg ∧ σ.slots[i].nd.size = (t.size : Int) ∧ (σ.slots[i].nd.kind = if t.isIn then 2 else 1) ∧ (t.isIn = true → σ.slots[i].nd.depth = (d : Int)) ∧ (∀ k ∈ t.keys, ∀ e, e < d → tb σ.slots[i].nd.key.l e = tb k.l e) := by
  cases t with
  | nil => exact absurd h hz
  | leaf k v =>
    obtain ⟨i, hi, e, h1, h2, h3, h4, h5, h6, h7, h8, h9⟩ := h; refine ⟨i, hi, e, h1, h5, h6, by rw [h3]; rfl, (fun e => Bool.noConfusion e), fun k' hk' e _ => ?_⟩; simp only [Tre.keys, List.mem_singleton] at hk'; rw [h4, hk']
  | inner l r =>
    obtain ⟨i, hi, e, h1, h2, h3, h4, h5, h6, h7, h8⟩ := h; exact ⟨i, hi, e, h1, h4, h5, by rw [h2]; rfl, fun _ => h3, h6⟩
theorem IsT.got {z : Int} {d : Nat} {t : Tre} (h : IsT σ z d t) : ∃ (n : Nd) (val : List UInt8) (ok : Bool), Got σ z n val ok ∧ (ok = true ↔ z ≠ 0) ∧ n.kind = t.knd := by
  cases t with
  | nil =>
    have h : z = 0 := h; subst h; exact ⟨Nd.z, [], false, .inr ⟨rfl, by omega, rfl, rfl⟩, by simp, rfl⟩
  | leaf k v =>
    obtain ⟨i, hi, e, h1, h2, h3, h4, h5, h6, h7, h8, h9⟩ := h; exact ⟨_, _, true, .inl ⟨rfl, i, e, hi, rfl, rfl, h1⟩, by simp; omega, h3⟩
  | inner l r =>
    obtain ⟨i, hi, e, h1, h2, h3, h4, h5, h6, h7, h8⟩ := h; exact ⟨_, _, true, .inl ⟨rfl, i, e, hi, rfl, rfl, h1⟩, by simp; omega, h2⟩
end
def xci (l r : Tre) : Tre := if l.keys = [] ∧ r.isIn = false then r else if r.keys = [] ∧ l.isIn = false then l else .inner l r
def xau : Nat → Nat → List (D32 × List UInt8) → Tre
  | _, _, [] => .nil
  | _, _, [x] => .leaf x.1 x.2
  | 0, _, _ => .nil
  | n + 1, d, x :: y :: l =>
    xci (xau n (d + 1) ((x :: y :: l).takeWhile fun p => !tb p.1.l d)) (xau n (d + 1) ((x :: y :: l).dropWhile fun p => !tb p.1.l d))
end Go.Proofs.YtkjjdgnkelchfaaGreat
namespace Go.Proofs.YtkjjdgnkelchfaaGreat
end Go.Proofs.YtkjjdgnkelchfaaGreat
namespace Go.Proofs.YtkjjdgnkelchfaaGreat
open Go Go.RowKit
theorem tb_be (n e : Nat) (hn : n < 2 ^ 256) (he : e < 256) : tb (be 32 n) e = n.testBit (255 - e) := by
  rw [xdz _ (xaq _ _) e he, nOf_key hn]
section
variable {σ σ' : Sb} {R R' T T' : List Int}
def Sb.Stays (σ σ' : Sb) : Prop := ∀ (i : Nat) (h : i < σ.slots.length), σ.slots[i].count ≠ 0 → ∃ h' : i < σ'.slots.length, σ'.slots[i].nd = { σ.slots[i].nd with held := σ'.slots[i].nd.held } ∧ σ'.slots[i].val = σ.slots[i].val ∧ σ'.slots[i].count ≠ 0
theorem Sb.Stays.keeps (h : σ.Stays σ') (hI : σ.Inv R T) : σ.Keeps R σ' := fun i hi hl => by
  obtain ⟨p1, p2, p3, _⟩ := h i hi (hI.live_busy hi hl); exact ⟨p1, p2, p3⟩
theorem Sb.Stays.trans {a b c : Sb} (h1 : a.Stays b) (h2 : b.Stays c) : a.Stays c := fun i hi hc => by
  obtain ⟨p1, p2, p3, p4⟩ := h1 i hi hc; obtain ⟨q1, q2, q3, q4⟩ := h2 i p1 p4; exact ⟨q1, by rw [q2, p2], by rw [q3, p3], q4⟩
theorem Sb.Stays.by_ (i : Nat) (b : Int) : σ.Stays (σ.by i b) := fun j hj hc => by
  refine ⟨by simpa [Sb.by] using hj, ?_⟩; simp only [Sb.by, List.getElem_modify]
  split
  · exact ⟨rfl, rfl, hc⟩
  · exact ⟨rfl, rfl, hc⟩
theorem Sb.Stays.take (hN : σ.Nice) (e : En) : σ.Stays (σ.take e) := fun j hj hc => by
  obtain ⟨p, q⟩ := xhe hN j hj hc e; exact ⟨p, by rw [q], by rw [q], by rw [q]; exact hc⟩
theorem IsT.stay (hS : σ.Stays σ') : ∀ {t : Tre} {z : Int} {d : Nat}, IsT σ z d t → IsT σ' z d t
  | .nil, z, d, h => h
  | .leaf k v, z, d, h => by
    obtain ⟨i, hi, rfl, h1, h2, h3, h4, h5, h6, h7, h8, h9⟩ := h; obtain ⟨p1, p2, p3, p4⟩ := hS i hi h1; refine ⟨i, p1, rfl, p4, by rw [p3, h2], ?_, ?_, ?_, ?_, ?_, ?_, ?_⟩ <;> (rw [p2]; assumption)
  | .inner l r, z, d, h => by
    obtain ⟨i, hi, rfl, h1, h2, h3, h4, h5, h6, h7, h8⟩ := h; obtain ⟨p1, p2, p3, p4⟩ := hS i hi h1; have el : σ'.slots[i].nd.left = σ.slots[i].nd.left := by rw [p2]
    have er : σ'.slots[i].nd.right = σ.slots[i].nd.right := by rw [p2]
    refine ⟨i, p1, rfl, p4, ?_, ?_, ?_, ?_, ?_, ?_, ?_⟩
    · rw [p2]; exact h2
    · rw [p2]; exact h3
    · rw [p2]; exact h4
    · rw [p2]; exact h5
    · rw [p2]; exact h6
    · rw [el]; exact IsT.stay hS h7
    · rw [er]; exact IsT.stay hS h8
theorem Sb.Stays.hold (i : Nat) (hi : i < σ.slots.length) (h0 : 0 ≤ σ.slots[i].count) : σ.Stays (σ.hold i hi) := fun j hj hc => by
  refine ⟨by simpa [Sb.hold, Sb.put] using hj, ?_⟩; unfold Sb.hold; rw [Sb.put_at]
  split
  · next e => subst e; exact ⟨rfl, rfl, by show σ.slots[i].count + 1 ≠ 0; omega⟩
  · exact ⟨rfl, rfl, hc⟩
theorem Sb.by_free (i : Nat) (b : Int) : (σ.by i b).free = σ.free := rfl
theorem Sb.by_len (i : Nat) (b : Int) : (σ.by i b).slots.length = σ.slots.length := by simp [Sb.by]
theorem Sb.by_next (i : Nat) (b : Int) : (σ.by i b).next = σ.next := by
  unfold Sb.next; rw [Sb.by_free, Sb.by_len]
theorem Sb.take_by (hN : σ.Nice) (i : Nat) (hi : i < σ.slots.length) (hc : σ.slots[i].count ≠ 0) (e : En) (b : Int) : (σ.take e).by i b = (σ.by i b).take e := by
  unfold Sb.take; rw [Sb.by_free]
  cases hl : σ.free.getLast? with
  | none =>
    simp only [Sb.takeN, Sb.by]; congr 1; apply List.ext_getElem (by simp); intro k h1 h2; simp only [List.getElem_modify, List.getElem_append, List.length_modify]; by_cases hk : k < σ.slots.length
    · simp [hk]
    · have hne : i ≠ k := by omega
      simp [hk, hne]
  | some k0 =>
    simp only [Sb.takeF, Sb.by]; congr 1; apply List.ext_getElem (by simp); intro k h1 h2; simp only [List.getElem_modify, List.getElem_set]; by_cases hk : k0 - 1 = k
    · have hne : i ≠ k := fun e => by
        subst e; subst hk; exact hc (hN.z k0 (List.mem_of_getLast? hl) hi)
      simp [hk, hne]
    · simp [hk]
theorem Sb.take_ok (h : σ.Ok) (hroom : σ.used < σ.room) (e : En) : (σ.take e).Ok := by
  unfold Sb.take
  cases hl : σ.free.getLast? with
  | none => exact Sb.takeN_ok h e (List.getLast?_eq_none_iff.1 hl) hroom
  | some k =>
    refine Sb.takeF_ok h _ e ?_; have := List.mem_of_getLast? hl; exact List.length_pos_of_mem this
theorem Sb.Inv.give (h : σ.Inv R T) (R' : List Int) (i : Nat) (hi : i < σ.slots.length) (hR : ∀ z, R.count z = R'.count z + if z = (i : Int) + 1 then 1 else 0) : (σ.by i (-1)).Inv R' (((i : Int) + 1) :: T) := by
  have := h.part R' i hi hR; rw [← Sb.call_by i hi (-1)]; exact this
theorem xk8 (p : D32) (d e : Nat) (hd : d ≤ 256) (he : e < d) : tb (xnq p (d : Int) false).l e = tb p.l e := by
  have h0 : xgk p.l (d : Int) false = be 32 (xg1 (nOf p.l) d false) := by
    unfold xgk; rw [if_pos (by omega), Int.toNat_natCast]
  show tb (xgk p.l (d : Int) false) e = _; rw [h0, tb_be _ _ (xm5 _ _ _ (xet p.h) hd) (by omega), xkx _ _ _ _ (by omega) hd, if_pos he, ← xdz _ p.h _ (by omega)]
theorem xer (a z : Int) : (if (a == z) = true then 1 else 0 : Nat) = if z = a then 1 else 0 := by
  by_cases h : z = a
  · subst h; simp
  · have h2 : ¬ a = z := fun e => h e.symm
    simp [h, h2]
theorem Sb.Inv.both (h : σ.Inv R []) (hroom : σ.used < σ.room) (d i j : Nat) (hd : d < 256) (hi : i < σ.slots.length) (hj : j < σ.slots.length) (hne : i ≠ j) {l r : Tre} (hl : IsT σ ((i : Int) + 1) (d + 1) l) (hr : IsT σ ((j : Int) + 1) (d + 1) r) (hok : (Tre.inner l r).Ok d)
    (hR : ∀ z, R.count z = R'.count z + (if z = (i : Int) + 1 then 1 else 0) + (if z = (j : Int) + 1 then 1 else 0)) (σ2 : Sb) (h2 : σ2 = ((σ.take ⟨xcn d σ.slots[i].nd.key σ.slots[i].nd.dig σ.slots[j].nd.dig ((i : Int) + 1) ((j : Int) + 1) (σ.slots[i].nd.size + σ.slots[j].nd.size), 1, []⟩).by i (-1)).by j (-1)) :
    σ2.Inv ((σ.next : Int) :: R') [] ∧ σ.Stays σ2 ∧ IsT σ2 (σ.next : Int) d (.inner l r) ∧ σ2.room = σ.room ∧ σ2.used = σ.used + 1 := by
  obtain ⟨il, hil, eil, ci, di, si, _, _, ki⟩ := hl.nz (by omega); obtain ⟨jr, hjr, ejr, cj, dj, sj, _, _, kj⟩ := hr.nz (by omega); obtain rfl : il = i := by omega
  obtain rfl : jr = j := by omega
  generalize he : (⟨xcn d σ.slots[il].nd.key σ.slots[il].nd.dig σ.slots[jr].nd.dig ((il : Int) + 1) ((jr : Int) + 1) (σ.slots[il].nd.size + σ.slots[jr].nd.size), 1, []⟩ : En) = e at h2; have hcj' : (σ.by il (-1)).slots[jr]'(by rw [Sb.by_len]; exact hj) = σ.slots[jr] := (by_at il jr (-1) hj hne).2
  have g1 := h.give (((jr : Int) + 1) :: R') il hi (fun z => by
    rw [List.count_cons, hR z, xer]; omega)
  have g2 := g1.give R' jr (by rw [Sb.by_len]; exact hj) (fun z => by
    rw [List.count_cons, xer])
  have hN2 : (σ.by il (-1)).Nice := g1.nice
  have e2 : σ2 = ((σ.by il (-1)).by jr (-1)).take e := by
    rw [h2, Sb.take_by h.nice il hi ci, Sb.take_by hN2 jr (by rw [Sb.by_len]; exact hj) (by rw [hcj']; exact cj)]
  have hlen : ((σ.by il (-1)).by jr (-1)).slots.length = σ.slots.length := by rw [Sb.by_len, Sb.by_len]
  have hnx : ((σ.by il (-1)).by jr (-1)).next = σ.next := by rw [Sb.by_next, Sb.by_next]
  have hS : σ.Stays ((σ.by il (-1)).by jr (-1)) := (Sb.Stays.by_ il (-1)).trans (Sb.Stays.by_ jr (-1))
  have g3 := g2.take e (Sb.take_ok g2.ok hroom e) [] (by rw [← he]) (by rw [← he]) (.inr ⟨il, by rw [hlen]; exact hi, by rw [← he]⟩) (.inr ⟨jr, by rw [hlen]; exact hj, by rw [← he]⟩) (fun z => by
    rw [← he]; unfold En.pts; simp only [List.count_cons, List.count_nil, beq_iff_eq]; by_cases hz : z = 0
    · subst hz
      rw [if_neg (by omega), if_neg (by omega)]; simp
    · rw [if_neg hz]; omega)
  have hS2 : σ.Stays σ2 := by rw [e2]; exact hS.trans (Sb.Stays.take g2.nice e)
  obtain ⟨i0, hx, hrm, hus, hln, ⟨hi0, hat0⟩, _⟩ := g2.taken e; refine ⟨by rw [e2, ← hnx]; exact g3.1, hS2, ?_, by rw [e2, hrm]; rfl, by rw [e2, hus]; rfl⟩; have hi0' : i0 < σ2.slots.length := by rw [e2]; exact hi0
  have hat : σ2.slots[i0] = e := by subst e2; exact hat0
  refine ⟨i0, hi0', by rw [← hnx, hx]; omega, by rw [hat, ← he]; simp, by rw [hat, ← he], by rw [hat, ← he], ?_, ?_, ?_, ?_, ?_⟩
  · rw [hat, ← he, ← di, ← dj]
  · rw [hat, ← he]
    show σ.slots[il].nd.size + σ.slots[jr].nd.size = _; rw [si, sj]; omega
  · intro k hk x hx'
    rw [hat, ← he]; show tb (xnq σ.slots[il].nd.key (d : Int) false).l x = _; rw [xk8 _ _ _ (by omega) hx']; obtain ⟨_, okl, okr, _, _, hall, hl0, hr0⟩ := hok; by_cases hkl : l.keys = []
    · obtain ⟨_, hn⟩ := hl0 hkl
      rw [hn] at hl; have hl : (il : Int) + 1 = 0 := hl; omega
    · obtain ⟨k1, hk1⟩ := List.exists_mem_of_ne_nil _ hkl
      rw [ki k1 hk1 x (by omega)]; exact hall k1 (by simp [hk1]) k hk x hx'
  · rw [hat, ← he]; exact hl.stay hS2
  · rw [hat, ← he]; exact hr.stay hS2
end
section
variable {σ σ' : Sb} {R R' T T' : List Int}
theorem Sb.Inv.congr {R2 T2 : List Int} (h : σ.Inv R T) (hR : ∀ z, R.count z = R2.count z) (hT : ∀ z, T.count z = T2.count z) : σ.Inv R2 T2 :=
  ⟨h.ok, h.nice, fun i hi => by rw [← hR, ← hT]; exact h.count i hi, fun i hi => by rw [← hR]; exact h.held i hi, h.free, h.used,
   fun z hz => h.root z (List.count_pos_iff.1 (by rw [hR]; exact List.count_pos_iff.2 hz)), fun z hz => h.todo z (List.count_pos_iff.1 (by rw [hT]; exact List.count_pos_iff.2 hz)), h.left, h.right⟩
theorem Sb.Inv.oneSide (h : σ.Inv R []) (hroom : σ.used < σ.room) (d i : Nat) (hd : d < 256) (hi : i < σ.slots.length) {t l r : Tre} (ht : IsT σ ((i : Int) + 1) (d + 1) t) (hR : ∀ z, R.count z = R'.count z + (if z = (i : Int) + 1 then 1 else 0)) (e : En) (he1 : e.count = 1) (he2 : e.nd.held = 1)
    (hk : e.nd.kind = 2) (hdp : e.nd.depth = (d : Int)) (hdg : e.nd.dig = tagI l.dg r.dg) (hsz : e.nd.size = ((l.size + r.size : Nat) : Int)) (hky : e.nd.key = xnq σ.slots[i].nd.key (d : Int) false)
    (hside : (l = t ∧ r = .nil ∧ e.nd.left = (i : Int) + 1 ∧ e.nd.right = 0) ∨ (l = .nil ∧ r = t ∧ e.nd.left = 0 ∧ e.nd.right = (i : Int) + 1)) (hne : t.keys ≠ []) (hall : ∀ k ∈ t.keys, ∀ k' ∈ t.keys, ∀ x, x < d → tb k.l x = tb k'.l x) (σ2 : Sb) (h2 : σ2 = (σ.take e).by i (-1)) :
    σ2.Inv ((σ.next : Int) :: R') [] ∧ σ.Stays σ2 ∧ IsT σ2 (σ.next : Int) d (.inner l r) ∧ σ2.room = σ.room ∧ σ2.used = σ.used + 1 := by
  obtain ⟨il, hil, eil, ci, di, si, _, _, ki⟩ := ht.nz (by omega); obtain rfl : il = i := by omega
  have g1 := h.give R' il hi hR; have e2 : σ2 = (σ.by il (-1)).take e := by rw [h2, Sb.take_by h.nice il hi ci]
  have hlen : (σ.by il (-1)).slots.length = σ.slots.length := Sb.by_len _ _; have hnx : (σ.by il (-1)).next = σ.next := Sb.by_next _ _; have hin : (σ.by il (-1)).In ((il : Int) + 1) := ⟨il, by rw [hlen]; exact hi, rfl⟩
  have g3 := g1.take e (Sb.take_ok g1.ok hroom e) [] he1 he2 (by rcases hside with ⟨_, _, h3, _⟩ | ⟨_, _, h3, _⟩; exact .inr (by rw [h3]; exact hin); exact .inl h3) (by rcases hside with ⟨_, _, _, h3⟩ | ⟨_, _, _, h3⟩; exact .inl h3; exact .inr (by rw [h3]; exact hin)) (fun z => by
    unfold En.pts; simp only [List.count_cons, List.count_nil, beq_iff_eq]; by_cases hz : z = 0
    · subst hz
      rw [if_neg (by omega)]; simp
    · have hz2 : ¬ (0 : Int) = z := fun e => hz e.symm
      rcases hside with ⟨_, _, h3, h4⟩ | ⟨_, _, h3, h4⟩
      · rw [if_neg hz, h3, h4, if_neg hz2]
        omega
      · rw [if_neg hz, h3, h4, if_neg hz2]
        omega)
  have hS2 : σ.Stays σ2 := by rw [e2]; exact (Sb.Stays.by_ il (-1)).trans (Sb.Stays.take g1.nice e)
  obtain ⟨i0, hx, hrm, hus, hln, ⟨hi0, hat0⟩, _⟩ := g1.taken e; refine ⟨by rw [e2, ← hnx]; exact g3.1, hS2, ?_, by rw [e2, hrm]; rfl, by rw [e2, hus]; rfl⟩; have hi0' : i0 < σ2.slots.length := by rw [e2]; exact hi0
  have hat : σ2.slots[i0] = e := by subst e2; exact hat0
  have hkeys : ∀ k ∈ l.keys ++ r.keys, k ∈ t.keys := fun k hk => by
    rcases hside with ⟨rfl, rfl, _⟩ | ⟨rfl, rfl, _⟩
    · simpa [Tre.keys] using hk
    · simpa [Tre.keys] using hk
  refine ⟨i0, hi0', by rw [← hnx, hx]; omega, by rw [hat, he1]; decide, by rw [hat, hk], by rw [hat, hdp], by rw [hat, hdg], by rw [hat, hsz], ?_, ?_, ?_⟩
  · intro k hk x hx'
    rw [hat, hky, xk8 _ _ _ (by omega) hx']; obtain ⟨k1, hk1⟩ := List.exists_mem_of_ne_nil _ hne; rw [ki k1 hk1 x (by omega)]; exact hall k1 hk1 k (hkeys k hk) x hx'
  · rw [hat]
    rcases hside with ⟨rfl, rfl, h3, _⟩ | ⟨rfl, rfl, h3, _⟩
    · rw [h3]; exact ht.stay hS2
    · exact h3
  · rw [hat]
    rcases hside with ⟨rfl, rfl, _, h3⟩ | ⟨rfl, rfl, _, h3⟩
    · exact h3
    · rw [h3]; exact ht.stay hS2
def MadeT (D : Nat → Prop) (w : World) (gs g : Nat) (σ : Sb) (R' : List Int) (d : Nat) (t : Tre) (c : Nat) (e : Ending) (w' : World) : Prop :=
  ∃ (z : Int) (D' : Nat → Prop) (vs' vf' : Sv) (σ' : Sb), e = .returned (.int .i64 z) ∧ StP D' w' gs g σ' vs' vf' ∧ Stp D w D' w' ∧ σ'.Inv (if z = 0 then R' else z :: R') [] ∧ σ.Stays σ' ∧ IsT σ' z d t ∧ σ'.room = σ.room ∧ σ'.used ≤ σ.used + c
end
end Go.Proofs.YtkjjdgnkelchfaaGreat
