import Derived.Test.YtkjjdgnkelchfaaGreatPCU5
set_option linter.unusedSimpArgs false
set_option linter.unusedVariables false
set_option maxRecDepth 100000
set_option maxHeartbeats 16000000
namespace Go.Proofs.YtkjjdgnkelchfaaGreat
open Go Go.RowKit
section
variable {P : Program} {T E : TypeId} {z b : Nat} {zv : Value} {w : World} {o : Oper} {a : Act} {K : Act → World → Prop} {Q : Exit → Act → World → Prop}
theorem xjs (B : ST P T E z) (I : ET P E zv z b) (hz : z ≤ 10000) (x : Operand) (ho : o.op = .buildSlice T 1 #[(0, x)]) (v : Value) (hx : a.eval x = v) (hl : v.cells.size = z)
    (h : K (a.put o.dst (.slice (some ⟨w.heap.size, 0, none⟩) 1 1)) (w.alloc (.cells v.cells E))) : o.wp P a w K Q := by
  obtain ⟨i, hi, hzz, hsz, _⟩ := info_parts I.i; have hp := I.p; have e : (w.alloc (.cells v.cells E)) = (w.alloc (.cells ((List.map (fun v : Value => v) [v]).flatMap fun v => v.cells.toList).toArray E)) := by simp
  refine wp_buildSlice T E 1 _ ho _ i _ B.t hi hzz (by rw [hsz]; omega) (by rw [hsz]; omega) ?_ (by rw [e] at h; exact h); have h2 : ((#[(0, x)] : Array (Nat × Operand)).map fun (i, x) => (i, a.eval x)).toList = (([v] : List Value).zipIdx 0).map fun x => (x.2, x.1) := by simp [hx]
  rw [h2, hsz, Great.fill_whole hp _ _ ?_ ?_]
  · simp
  · intro u hu
    simp at hu; subst hu; exact hl
  · simp
theorem xhz (B : ST P T E z) (I : ET P E zv z b) (hz : z ≤ 10000) (x : Operand) (ho : o.op = .buildSlice T 1 #[(0, x)]) (cs : List Value) (hx : a.eval x = .agg cs.toArray) (hl : cs.length = z)
    (h : K (a.put o.dst (.slice (some ⟨w.heap.size, 0, none⟩) 1 1)) (w.alloc (.cells cs.toArray E))) : o.wp P a w K Q :=
  xjs B I hz x ho _ hx (by simpa [Value.cells] using hl) h
theorem xe8 (B : ST P T E 1) (I : ET P E zv 1 b) (x : Operand) (ho : o.op = .buildSlice T 1 #[(0, x)]) (v : Value) (hx : a.eval x = v) (h1 : v.oneCell' = true)
    (h : K (a.put o.dst (.slice (some ⟨w.heap.size, 0, none⟩) 1 1)) (w.alloc (.cells [v].toArray E))) : o.wp P a w K Q := by
  have hv : v.cells = #[v] := by cases v <;> first | rfl | (simp [Value.oneCell'] at h1)
  exact xjs B I (by omega) x ho v hx (by rw [hv]; rfl) (by rw [hv]; exact h)
theorem xd4 (B : ST P T E z) (I : ET P E zv z b) (s x : Operand) (ho : o.op = .call { callee := .builtin .append, args := #[s, x], argTypes := #[T, T] }) (v : Sv) (n : Nat) (xs : List Value) (hs : a.eval s = v.v)
    (hown : w.ownsRow 0 E z v.v n xs) (ad : Addr) (m c : Nat) (ys : List Value) (hx : a.eval x = .slice (some ad) m c) (hr : Rd w (some ad) ys) (hy : ys.length = m * z) (h1 : ∀ u ∈ ys, u.oneCell' = true) (hm : 0 < m)
    (hbytes : (n + m) * b ≤ 140737488355328) (h63 : n + m ≤ 140737488355328)
    (h : ∀ (v' : Sv) w', w'.ownsRow 0 E z v'.v (n + m) (xs ++ ys) → w.grownBy w' v.v.ownBlock → (∀ k, v'.v.ownBlock = some k → v.v.ownBlock = some k ∨ k = w.heap.size) → (∀ k, v'.v.ownBlock = some k → k < w'.heap.size) → K (a.put o.dst v'.v) w') : o.wp P a w K Q := by
  obtain ⟨i, hi, hzz, hsz, hb⟩ := info_parts I.i; have hp := I.p; have hpos : 0 < ys.length := by rw [hy]; exact Nat.mul_pos hm hp
  obtain ⟨ad', e, hc⟩ := hr hpos; cases e; refine wp_append_lies w s x T ho 0 E i _ z b B.t hi hzz hsz hb I.c hp v.v n xs hs hown ad m c ys hx hy hc h1 hm (by unfold maxLen; omega) hbytes (Nat.zero_le _) w.heap.size rfl ?_; intro g cap w' h2 h3 h4 h5; refine h ⟨some ⟨g, 0, none⟩, n + m, cap⟩ w' h2 h3 ?_ ?_
  · intro k hk
    simp [Sv.v, Value.ownBlock] at hk; subst hk; rcases h4 with h4 | h4
    · exact .inl h4
    · exact .inr h4
  · intro k hk
    simp [Sv.v, Value.ownBlock] at hk; subst hk; exact h5
end
section
variable {P : Program} {T E : TypeId} {z b : Nat} {zv : Value} {w0 w : World} {D : Nat → Prop} {L : List (Nat × Nat × List Value)} {ops : Array Oper} {rest : List Oper} {o : Oper} {a : Act} {K : Act → World → Prop} {Q : Exit → Act → World → Prop}
theorem xcm (B : ST P T E 1) (I : ET P E zv 1 b) (hgd : o.guard = none) (x : Operand) (ho : o.op = .buildSlice T 1 #[(0, x)]) (H : Loc w0 D L w) (v : Value) (hx : a.eval x = v) (h1 : v.oneCell' = true)
    (h : ∀ g w', Loc w0 D ((g, E, [v]) :: L) w' → wpList P ops Q rest (a.put o.dst (.slice (some ⟨g, 0, none⟩) 1 1)) w') : wpList P ops Q (o :: rest) a w :=
  wpList_plain hgd fun K hK => xe8 B I x ho v hx h1 (hK _ _ (h _ _ (H.new E [v])))
theorem xb7 (B : ST P T E z) (I : ET P E zv z b) (hz : z ≤ 10000) (hgd : o.guard = none) (x : Operand) (ho : o.op = .buildSlice T 1 #[(0, x)]) (H : Loc w0 D L w) (cs : List Value) (hx : a.eval x = .agg cs.toArray) (hl : cs.length = z)
    (h : ∀ g w', Loc w0 D ((g, E, cs) :: L) w' → wpList P ops Q rest (a.put o.dst (.slice (some ⟨g, 0, none⟩) 1 1)) w') : wpList P ops Q (o :: rest) a w :=
  wpList_plain hgd fun K hK => xhz B I hz x ho cs hx hl (hK _ _ (h _ _ (H.new E cs)))
def Rest (w : World) (L : List (Nat × Nat × List Value)) : Nat → Prop := fun k => k < w.heap.size ∧ ∀ x ∈ L, x.1 ≠ k
theorem Loc.redo (H : Loc w0 D L w) {T : Nat → Prop} {w' : World} (hf : Fr T w w') (hL : ∀ x ∈ L, ¬ T x.1) : Loc w' (Rest w' L) L w' :=
  H.anew hf hL _ (fun k hk => hk.1) (fun x hx hk => hk.2 x hx rfl)
theorem xlw (B : ST P T E z) (I : ET P E zv z b) (s x : Operand) (ho : o.op = .call { callee := .builtin .append, args := #[s, x], argTypes := #[T, T] }) (gy t : Nat) (ys : List Value) (H : Loc w0 D ((gy, t, ys) :: L) w) (v : Sv) (n : Nat) (xs : List Value) (hs : a.eval s = v.v)
    (hown : w0.ownsRow 0 E z v.v n xs) (hD : ∀ k, v.v.ownBlock = some k → D k) (m c : Nat) (hx : a.eval x = .slice (some ⟨gy, 0, none⟩) m c) (hy : ys.length = m * z) (h1 : ∀ u ∈ ys, u.oneCell' = true) (h0 : 0 < m)
    (hbytes : (n + m) * b ≤ 140737488355328) (h63 : n + m ≤ 140737488355328)
    (h : ∀ (v' : Sv) w', w'.ownsRow 0 E z v'.v (n + m) (xs ++ ys) → Fr (fun k => ¬ D k ∨ v.v.ownBlock = some k) w0 w' → (∀ k, v'.v.ownBlock = some k → Rest w' L k ∧ (v.v.ownBlock = some k ∨ w0.heap.size ≤ k)) → Loc w' (Rest w' L) L w' → K (a.put o.dst v'.v) w') : o.wp P a w K Q := by
  have hr : Rd w (some ⟨gy, 0, none⟩) ys := Rd.of_blk0 (es := []) (by simpa using H.blk (.head _))
  have hown' : w.ownsRow 0 E z v.v n xs := by
    obtain ⟨hl, h⟩ := hown; rcases h with ⟨h3, h4⟩ | ⟨g, cap, cur, h3, hg, hh, hn, hm, hs, ht⟩
    · exact ⟨hl, .inl ⟨h3, h4⟩⟩
    · exact ⟨hl, .inr ⟨g, cap, cur, h3, hg, by rw [H.heap (hD g (by rw [h3]; rfl))]; exact hh, hn, hm, hs, ht⟩⟩
  refine xd4 B I s x ho v n xs hs hown' _ m c ys hx hr hy h1 h0 hbytes h63 ?_; intro v' w' h2 h3 h4 h5; have hf : Fr (fun k => v.v.ownBlock = some k) w w' := (Fr.refl _ _).grown h3 (fun g e => .inl e); have hL : ∀ x ∈ L, ¬ v.v.ownBlock = some x.1 := fun x hx e => (H.own x (.tail _ hx)).1 (hD _ e)
  have hf0 : Fr (fun k => ¬ D k ∨ v.v.ownBlock = some k) w0 w' :=
    ⟨hf.os.trans H.fr.os, hf.tape.trans H.fr.tape, hf.output.trans H.fr.output, Nat.le_trans H.fr.size hf.size, fun k hk hn =>
      (hf.block k (Nat.lt_of_lt_of_le hk H.fr.size) (fun e => hn (.inr e))).trans (H.fr.block k hk (fun e => hn (.inl e)))⟩
  refine (h v' w' h2 hf0 (fun k hk => ⟨⟨h5 k hk, ?_⟩, ?_⟩) ((H.drop L (sB _ _)).redo hf hL))
  · intro y hy e
    rcases h4 k hk with h6 | h6
    · exact hL y hy (e ▸ h6)
    · have := (H.own y (.tail _ hy)).2.lt
      omega
  · rcases h4 k hk with h6 | h6
    · exact .inl h6
    · exact .inr (by have := H.fr.size; omega)
theorem xr6 (B : ST P T E z) (I : ET P E zv z b) (hgd : o.guard = none) (s x : Operand) (ho : o.op = .call { callee := .builtin .append, args := #[s, x], argTypes := #[T, T] }) (gy t : Nat) (ys : List Value) (H : Loc w0 D ((gy, t, ys) :: L) w) (v : Sv) (n : Nat) (xs : List Value) (hs : a.eval s = v.v)
    (hown : w0.ownsRow 0 E z v.v n xs) (hD : ∀ k, v.v.ownBlock = some k → D k) (m c : Nat) (hx : a.eval x = .slice (some ⟨gy, 0, none⟩) m c) (hy : ys.length = m * z) (h1 : ∀ u ∈ ys, u.oneCell' = true) (h0 : 0 < m)
    (hbytes : (n + m) * b ≤ 140737488355328) (h63 : n + m ≤ 140737488355328)
    (h : ∀ (v' : Sv) w', w'.ownsRow 0 E z v'.v (n + m) (xs ++ ys) → Fr (fun k => ¬ D k ∨ v.v.ownBlock = some k) w0 w' → (∀ k, v'.v.ownBlock = some k → Rest w' L k ∧ (v.v.ownBlock = some k ∨ w0.heap.size ≤ k)) → Loc w' (Rest w' L) L w' → wpList P ops Q rest (a.put o.dst v'.v) w') : wpList P ops Q (o :: rest) a w :=
  wpList_plain hgd fun K hK => xlw B I s x ho gy t ys H v n xs hs hown hD m c hx hy h1 h0 hbytes h63 fun v' w' e1 e2 e3 e4 => hK _ _ (h v' w' e1 e2 e3 e4)
end
structure CF (P : Program) (n : Nat) : Prop where
  f : ∃ fn, P.funcs[n]? = some fn ∧ (fn.name == "runtime.NumGoroutine") = false ∧ fn.body.isNone = false
section
variable {P : Program} {w : World} {o : Oper} {a : Act} {Q : Exit → Act → World → Prop} {K : Act → World → Prop}
theorem xac {n : Nat} (C : CF P n) {xs : List Operand} {ts : Array TypeId} (ho : o.op = .call { callee := .value (.func n), args := xs.toArray, argTypes := ts })
    (args : List Value) (ha : xs.map a.eval = args) (hC : Calls P n args.toArray w fun e w' => ∃ v, e = .returned v ∧ K (a.put o.dst v) w') : o.wp P a w K Q := by
  obtain ⟨fn, h1, h2, h3⟩ := C.f; exact wp_callF h1 h2 h3 ho args.toArray (by rw [List.map_toArray, ha]) hC
theorem xcs {t e : TypeId} (ht : P.underlying t = some (.slice e)) (x : Operand) (ho : o.op = .call { callee := .builtin .len, args := #[x], argTypes := #[t] }) (A : Option Addr) (n c : Nat) (hx : a.eval x = .slice A n c) :
    (execOp a.eval o).run P w = .ok (.value (.int .i64 (n : Int))) w := by
  unfold execOp
  have e : (Builtin.len_ #[t] o.type #[.slice A n c]).run P w = .ok (.int .i64 (n : Int)) w := by
    simp [Builtin.len_, run_underlying ht]; rfl
  simp only [ho, resolve, invoke, builtin, Sem.run_bind, Sem.run_pure, Result.andThen_ok, List.map_toArray, qk, ql, hx, e]
theorem xjt {ops : Array Oper} {rest : List Oper} (hw : Region.wanted o (yielded ops a.tmps) = true) (h : ∀ K : Act → World → Prop, (∀ a w, wpList P ops Q rest a w → K a w) → o.wp P a w K Q) : wpList P ops Q (o :: rest) a w :=
  wpList_step fun K hK => by rw [if_pos hw]; exact h K hK
theorem xkl {ops : Array Oper} {rest : List Oper} (hw : Region.wanted o (yielded ops a.tmps) = false) (h : wpList P ops Q rest (a.put o.dst undef) w) : wpList P ops Q (o :: rest) a w := by
  unfold wpList; rw [if_neg (by rw [hw]; decide)]; exact h
theorem xbf {t e : TypeId} {z : Nat} (B : ST P t e z) (x y : Operand) (ho : o.op = .indexAddr t x y) (ad : Addr) (n c i : Nat) (k : IntKind) (hx : a.eval x = .slice (some ad) n c) (hy : a.eval y = .int k (i : Int)) (hi : i < n) :
    (execOp a.eval o).run P w = .ok (.value (.pointer (some (ad.add (i * z))))) w := by
  have he : P.elem t = e := by simp [Program.elem, B.t]
  have hr := run_indexAt_slice (P := P) (w := w) t ad n c k (i : Int) (by rw [he]; exact B.t); rw [he, if_pos (by omega), B.size] at hr; simp only [Result.andThen_ok, Int.toNat_natCast] at hr; unfold execOp; simp only [ho, hx, hy, Sem.run_bind, hr, Result.andThen_ok, Sem.run_pure]
theorem xbc {t e : TypeId} {z : Nat} (B : ST P t e z) (x y : Operand) (ho : o.op = .indexAddr t x y) (G n c i : Nat) (k : IntKind) (hx : a.eval x = .slice (some ⟨G, 0, none⟩) n c) (hy : a.eval y = .int k (i : Int)) (hi : i < n) :
    (execOp a.eval o).run P w = .ok (.value (.pointer (some ⟨G, i * z, none⟩))) w := by
  have := xbf (w := w) B x y ho _ n c i k hx hy hi; rwa [xew, Nat.zero_add] at this
end
abbrev Loc.P {w0 : World} {D : Nat → Prop} {L : List (Nat × Nat × List Value)} {w : World} (_ : Loc w0 D L w) : World → Prop := Loc w0 D L
theorem cf6 : CF Tryz.prog 6 := ⟨_, Tryz.func6, by kernel_rfl, rfl⟩
theorem cf14 : CF Tryz.prog 14 := ⟨_, Tryz.func14, by kernel_rfl, rfl⟩
theorem cf17 : CF Tryz.prog 17 := ⟨_, Tryz.func17, by kernel_rfl, rfl⟩
theorem cf18 : CF Tryz.prog 18 := ⟨_, Tryz.func18, by kernel_rfl, rfl⟩
theorem cf19 : CF Tryz.prog 19 := ⟨_, Tryz.func19, by kernel_rfl, rfl⟩
theorem cf20 : CF Tryz.prog 20 := ⟨_, Tryz.func20, by kernel_rfl, rfl⟩
theorem cf21 : CF Tryz.prog 21 := ⟨_, Tryz.func21, by kernel_rfl, rfl⟩
theorem cf22 : CF Tryz.prog 22 := ⟨_, Tryz.func22, by kernel_rfl, rfl⟩
theorem cf23 : CF Tryz.prog 23 := ⟨_, Tryz.func23, by kernel_rfl, rfl⟩
theorem cf24 : CF Tryz.prog 24 := ⟨_, Tryz.func24, by kernel_rfl, rfl⟩
theorem cf25 : CF Tryz.prog 25 := ⟨_, Tryz.func25, by kernel_rfl, rfl⟩
theorem cf26 : CF Tryz.prog 26 := ⟨_, Tryz.func26, by kernel_rfl, rfl⟩
theorem cf27 : CF Tryz.prog 27 := ⟨_, Tryz.func27, by kernel_rfl, rfl⟩
theorem cf29 : CF Tryz.prog 29 := ⟨_, Tryz.func29, by kernel_rfl, rfl⟩
theorem cf34 : CF Tryz.prog 34 := ⟨_, Tryz.func34, by kernel_rfl, rfl⟩
theorem cf36 : CF Tryz.prog 36 := ⟨_, Tryz.func36, by kernel_rfl, rfl⟩
theorem cf37 : CF Tryz.prog 37 := ⟨_, Tryz.func37, by kernel_rfl, rfl⟩
theorem cf38 : CF Tryz.prog 38 := ⟨_, Tryz.func38, by kernel_rfl, rfl⟩
theorem cf39 : CF Tryz.prog 39 := ⟨_, Tryz.func39, by kernel_rfl, rfl⟩
theorem cf40 : CF Tryz.prog 40 := ⟨_, Tryz.func40, by kernel_rfl, rfl⟩
theorem cf41 : CF Tryz.prog 41 := ⟨_, Tryz.func41, by kernel_rfl, rfl⟩
theorem cf42 : CF Tryz.prog 42 := ⟨_, Tryz.func42, by kernel_rfl, rfl⟩
theorem cf43 : CF Tryz.prog 43 := ⟨_, Tryz.func43, by kernel_rfl, rfl⟩
theorem cf44 : CF Tryz.prog 44 := ⟨_, Tryz.func44, by kernel_rfl, rfl⟩
theorem cf45 : CF Tryz.prog 45 := ⟨_, Tryz.func45, by kernel_rfl, rfl⟩
theorem cf52 : CF Tryz.prog 52 := ⟨_, Tryz.func52, by kernel_rfl, rfl⟩
theorem cf53 : CF Tryz.prog 53 := ⟨_, Tryz.func53, by kernel_rfl, rfl⟩
theorem cf54 : CF Tryz.prog 54 := ⟨_, Tryz.func54, by kernel_rfl, rfl⟩
theorem cf58 : CF Tryz.prog 58 := ⟨_, Tryz.func58, by kernel_rfl, rfl⟩
theorem cf59 : CF Tryz.prog 59 := ⟨_, Tryz.func59, by kernel_rfl, rfl⟩
theorem cf67 : CF Tryz.prog 67 := ⟨_, Tryz.func67, by kernel_rfl, rfl⟩
theorem cf68 : CF Tryz.prog 68 := ⟨_, Tryz.func68, by kernel_rfl, rfl⟩
theorem cf69 : CF Tryz.prog 69 := ⟨_, Tryz.func69, by kernel_rfl, rfl⟩
theorem cf70 : CF Tryz.prog 70 := ⟨_, Tryz.func70, by kernel_rfl, rfl⟩
theorem cf71 : CF Tryz.prog 71 := ⟨_, Tryz.func71, by kernel_rfl, rfl⟩
theorem cf72 : CF Tryz.prog 72 := ⟨_, Tryz.func72, by kernel_rfl, rfl⟩
theorem cf73 : CF Tryz.prog 73 := ⟨_, Tryz.func73, by kernel_rfl, rfl⟩
theorem cf74 : CF Tryz.prog 74 := ⟨_, Tryz.func74, by kernel_rfl, rfl⟩
theorem cf75 : CF Tryz.prog 75 := ⟨_, Tryz.func75, by kernel_rfl, rfl⟩
theorem cf76 : CF Tryz.prog 76 := ⟨_, Tryz.func76, by kernel_rfl, rfl⟩
theorem cf77 : CF Tryz.prog 77 := ⟨_, Tryz.func77, by kernel_rfl, rfl⟩
theorem cf78 : CF Tryz.prog 78 := ⟨_, Tryz.func78, by kernel_rfl, rfl⟩
theorem cf79 : CF Tryz.prog 79 := ⟨_, Tryz.func79, by kernel_rfl, rfl⟩
theorem cf82 : CF Tryz.prog 82 := ⟨_, Tryz.func82, by kernel_rfl, rfl⟩
theorem cf83 : CF Tryz.prog 83 := ⟨_, Tryz.func83, by kernel_rfl, rfl⟩
theorem cf89 : CF Tryz.prog 89 := ⟨_, Tryz.func89, by kernel_rfl, rfl⟩
theorem cf90 : CF Tryz.prog 90 := ⟨_, Tryz.func90, by kernel_rfl, rfl⟩
theorem cf91 : CF Tryz.prog 91 := ⟨_, Tryz.func91, by kernel_rfl, rfl⟩
theorem cf92 : CF Tryz.prog 92 := ⟨_, Tryz.func92, by kernel_rfl, rfl⟩
theorem cf93 : CF Tryz.prog 93 := ⟨_, Tryz.func93, by kernel_rfl, rfl⟩
theorem cf94 : CF Tryz.prog 94 := ⟨_, Tryz.func94, by kernel_rfl, rfl⟩
theorem cf95 : CF Tryz.prog 95 := ⟨_, Tryz.func95, by kernel_rfl, rfl⟩
theorem cf96 : CF Tryz.prog 96 := ⟨_, Tryz.func96, by kernel_rfl, rfl⟩
theorem cf97 : CF Tryz.prog 97 := ⟨_, Tryz.func97, by kernel_rfl, rfl⟩
theorem cf101 : CF Tryz.prog 101 := ⟨_, Tryz.func101, by kernel_rfl, rfl⟩
theorem cf118 : CF Tryz.prog 118 := ⟨_, Tryz.func118, by kernel_rfl, rfl⟩
theorem cf119 : CF Tryz.prog 119 := ⟨_, Tryz.func119, by kernel_rfl, rfl⟩
theorem cf120 : CF Tryz.prog 120 := ⟨_, Tryz.func120, by kernel_rfl, rfl⟩
theorem cf121 : CF Tryz.prog 121 := ⟨_, Tryz.func121, by kernel_rfl, rfl⟩
theorem cf122 : CF Tryz.prog 122 := ⟨_, Tryz.func122, by kernel_rfl, rfl⟩
theorem cf123 : CF Tryz.prog 123 := ⟨_, Tryz.func123, by kernel_rfl, rfl⟩
theorem cf124 : CF Tryz.prog 124 := ⟨_, Tryz.func124, by kernel_rfl, rfl⟩
theorem cf125 : CF Tryz.prog 125 := ⟨_, Tryz.func125, by kernel_rfl, rfl⟩
theorem cf126 : CF Tryz.prog 126 := ⟨_, Tryz.func126, by kernel_rfl, rfl⟩
theorem cf127 : CF Tryz.prog 127 := ⟨_, Tryz.func127, by kernel_rfl, rfl⟩
theorem cf128 : CF Tryz.prog 128 := ⟨_, Tryz.func128, by kernel_rfl, rfl⟩
theorem cf129 : CF Tryz.prog 129 := ⟨_, Tryz.func129, by kernel_rfl, rfl⟩
theorem cf130 : CF Tryz.prog 130 := ⟨_, Tryz.func130, by kernel_rfl, rfl⟩
theorem cf132 : CF Tryz.prog 132 := ⟨_, Tryz.func132, by kernel_rfl, rfl⟩
theorem cf133 : CF Tryz.prog 133 := ⟨_, Tryz.func133, by kernel_rfl, rfl⟩
theorem cf135 : CF Tryz.prog 135 := ⟨_, Tryz.func135, by kernel_rfl, rfl⟩
theorem cf136 : CF Tryz.prog 136 := ⟨_, Tryz.func136, by kernel_rfl, rfl⟩
theorem cf138 : CF Tryz.prog 138 := ⟨_, Tryz.func138, by kernel_rfl, rfl⟩
theorem cf142 : CF Tryz.prog 142 := ⟨_, Tryz.func142, by kernel_rfl, rfl⟩
theorem cf143 : CF Tryz.prog 143 := ⟨_, Tryz.func143, by kernel_rfl, rfl⟩
theorem cf144 : CF Tryz.prog 144 := ⟨_, Tryz.func144, by kernel_rfl, rfl⟩
theorem cf145 : CF Tryz.prog 145 := ⟨_, Tryz.func145, by kernel_rfl, rfl⟩
theorem cf146 : CF Tryz.prog 146 := ⟨_, Tryz.func146, by kernel_rfl, rfl⟩
theorem cf147 : CF Tryz.prog 147 := ⟨_, Tryz.func147, by kernel_rfl, rfl⟩
theorem cf148 : CF Tryz.prog 148 := ⟨_, Tryz.func148, by kernel_rfl, rfl⟩
theorem cf149 : CF Tryz.prog 149 := ⟨_, Tryz.func149, by kernel_rfl, rfl⟩
theorem cf150 : CF Tryz.prog 150 := ⟨_, Tryz.func150, by kernel_rfl, rfl⟩
theorem cf151 : CF Tryz.prog 151 := ⟨_, Tryz.func151, by kernel_rfl, rfl⟩
theorem cf152 : CF Tryz.prog 152 := ⟨_, Tryz.func152, by kernel_rfl, rfl⟩
theorem cf153 : CF Tryz.prog 153 := ⟨_, Tryz.func153, by kernel_rfl, rfl⟩
theorem cf154 : CF Tryz.prog 154 := ⟨_, Tryz.func154, by kernel_rfl, rfl⟩
theorem cf155 : CF Tryz.prog 155 := ⟨_, Tryz.func155, by kernel_rfl, rfl⟩
theorem cf156 : CF Tryz.prog 156 := ⟨_, Tryz.func156, by kernel_rfl, rfl⟩
theorem cf177 : CF Tryz.prog 177 := ⟨_, Tryz.func177, by kernel_rfl, rfl⟩
theorem cf178 : CF Tryz.prog 178 := ⟨_, Tryz.func178, by kernel_rfl, rfl⟩
theorem cf179 : CF Tryz.prog 179 := ⟨_, Tryz.func179, by kernel_rfl, rfl⟩
theorem cf180 : CF Tryz.prog 180 := ⟨_, Tryz.func180, by kernel_rfl, rfl⟩
theorem cf181 : CF Tryz.prog 181 := ⟨_, Tryz.func181, by kernel_rfl, rfl⟩
theorem cf182 : CF Tryz.prog 182 := ⟨_, Tryz.func182, by kernel_rfl, rfl⟩
theorem cf183 : CF Tryz.prog 183 := ⟨_, Tryz.func183, by kernel_rfl, rfl⟩
theorem cf184 : CF Tryz.prog 184 := ⟨_, Tryz.func184, by kernel_rfl, rfl⟩
theorem cf185 : CF Tryz.prog 185 := ⟨_, Tryz.func185, by kernel_rfl, rfl⟩
theorem cf186 : CF Tryz.prog 186 := ⟨_, Tryz.func186, by kernel_rfl, rfl⟩
theorem cf187 : CF Tryz.prog 187 := ⟨_, Tryz.func187, by kernel_rfl, rfl⟩
theorem cf188 : CF Tryz.prog 188 := ⟨_, Tryz.func188, by kernel_rfl, rfl⟩
theorem cf189 : CF Tryz.prog 189 := ⟨_, Tryz.func189, by kernel_rfl, rfl⟩
theorem cf190 : CF Tryz.prog 190 := ⟨_, Tryz.func190, by kernel_rfl, rfl⟩
theorem cf192 : CF Tryz.prog 192 := ⟨_, Tryz.func192, by kernel_rfl, rfl⟩
theorem cf206 : CF Tryz.prog 206 := ⟨_, Tryz.func206, by kernel_rfl, rfl⟩
theorem cf207 : CF Tryz.prog 207 := ⟨_, Tryz.func207, by kernel_rfl, rfl⟩
theorem cf208 : CF Tryz.prog 208 := ⟨_, Tryz.func208, by kernel_rfl, rfl⟩
theorem cf210 : CF Tryz.prog 210 := ⟨_, Tryz.func210, by kernel_rfl, rfl⟩
theorem cf212 : CF Tryz.prog 212 := ⟨_, Tryz.func212, by kernel_rfl, rfl⟩
theorem cf213 : CF Tryz.prog 213 := ⟨_, Tryz.func213, by kernel_rfl, rfl⟩
theorem cf219 : CF Tryz.prog 219 := ⟨_, Tryz.func219, by kernel_rfl, rfl⟩
theorem cf222 : CF Tryz.prog 222 := ⟨_, Tryz.func222, by kernel_rfl, rfl⟩
theorem cf223 : CF Tryz.prog 223 := ⟨_, Tryz.func223, by kernel_rfl, rfl⟩
theorem cf224 : CF Tryz.prog 224 := ⟨_, Tryz.func224, by kernel_rfl, rfl⟩
theorem cf225 : CF Tryz.prog 225 := ⟨_, Tryz.func225, by kernel_rfl, rfl⟩
theorem cf226 : CF Tryz.prog 226 := ⟨_, Tryz.func226, by kernel_rfl, rfl⟩
theorem cf227 : CF Tryz.prog 227 := ⟨_, Tryz.func227, by kernel_rfl, rfl⟩
theorem cf228 : CF Tryz.prog 228 := ⟨_, Tryz.func228, by kernel_rfl, rfl⟩
theorem cf229 : CF Tryz.prog 229 := ⟨_, Tryz.func229, by kernel_rfl, rfl⟩
theorem cf230 : CF Tryz.prog 230 := ⟨_, Tryz.func230, by kernel_rfl, rfl⟩
theorem cf231 : CF Tryz.prog 231 := ⟨_, Tryz.func231, by kernel_rfl, rfl⟩
theorem cf232 : CF Tryz.prog 232 := ⟨_, Tryz.func232, by kernel_rfl, rfl⟩
theorem cf242 : CF Tryz.prog 242 := ⟨_, Tryz.func242, by kernel_rfl, rfl⟩
theorem cf243 : CF Tryz.prog 243 := ⟨_, Tryz.func243, by kernel_rfl, rfl⟩
theorem cf248 : CF Tryz.prog 248 := ⟨_, Tryz.func248, by kernel_rfl, rfl⟩
theorem cf250 : CF Tryz.prog 250 := ⟨_, Tryz.func250, by kernel_rfl, rfl⟩
theorem cf252 : CF Tryz.prog 252 := ⟨_, Tryz.func252, by kernel_rfl, rfl⟩
def Gw (E z : Nat) (G : List (Nat × Nat × List Value)) (v : Sv) (n : Nat) (xs : List Value) : Prop :=
  xs.length = n * z ∧ ((G = [] ∧ v = Sv.nil ∧ n = 0) ∨ ∃ g cap tl, G = [(g, E, xs ++ tl)] ∧ v = ⟨some ⟨g, 0, none⟩, n, cap⟩ ∧ n ≤ cap ∧ cap ≤ maxLen ∧ (xs ++ tl).length = cap * z)
theorem Gw.nil (E z : Nat) : Gw E z [] Sv.nil 0 [] := ⟨by simp, .inl ⟨rfl, rfl, rfl⟩⟩
theorem Gw.len {E z n : Nat} {G : List (Nat × Nat × List Value)} {v : Sv} {xs : List Value} (h : Gw E z G v n xs) : v.n = n := by
  obtain ⟨_, ⟨_, rfl, rfl⟩ | ⟨g, cap, tl, _, rfl, _, _, _⟩⟩ := h <;> rfl
theorem Gw.cap {E z n : Nat} {G : List (Nat × Nat × List Value)} {v : Sv} {xs : List Value} (h : Gw E z G v n xs) : v.n ≤ v.c ∧ v.c ≤ maxLen := by
  obtain ⟨_, ⟨_, rfl, rfl⟩ | ⟨g, cap, tl, _, rfl, h2, h3, _⟩⟩ := h
  · exact ⟨Nat.le_refl _, by show 0 ≤ _; omega⟩
  · exact ⟨h2, h3⟩
section
variable {P : Program} {T E : TypeId} {z b : Nat} {zv : Value} {w0 w : World} {D : Nat → Prop} {L L0 L1 G : List (Nat × Nat × List Value)} {ops : Array Oper} {rest : List Oper} {o : Oper} {a : Act} {K : Act → World → Prop} {Q : Exit → Act → World → Prop}
theorem Gw.rd {n : Nat} {v : Sv} {xs : List Value} (h : Gw E z G v n xs) (H : Loc w0 D (L0 ++ (G ++ L1)) w) : Rd w v.A xs := by
  obtain ⟨hl, ⟨rfl, rfl, rfl⟩ | ⟨g, cap, tl, rfl, rfl, h1, h2, h3⟩⟩ := h
  · have : xs = [] := List.eq_nil_of_length_eq_zero (by rw [hl]; omega)
    subst this; exact Rd.nil _ _
  · exact Rd.of_blk0 (H.blk (g := g) (t := E) (cs := xs ++ tl) (by simp))
theorem Gw.owns {n : Nat} {v : Sv} {xs : List Value} (h : Gw E z G v n xs) (H : Loc w0 D (L0 ++ (G ++ L1)) w) : w.ownsRow 0 E z v.v n xs := by
  obtain ⟨hl, ⟨rfl, rfl, rfl⟩ | ⟨g, cap, tl, rfl, rfl, h1, h2, h3⟩⟩ := h
  · exact ⟨hl, .inl ⟨rfl, rfl⟩⟩
  · refine ⟨hl, .inr ⟨g, cap, (xs ++ tl).toArray, rfl, Nat.zero_le _, H.blk (g := g) (t := E) (cs := xs ++ tl) (by simp), h1, h2, by simpa using h3, ?_⟩⟩
    show (xs ++ tl).take (n * z) = xs; rw [List.take_append_of_le_length (by omega), List.take_of_length_le (by omega)]
theorem pw_mid {g t : Nat} {cs : List Value} (h : (L0 ++ L1).Pairwise (fun x y => x.1 ≠ y.1)) (hn : ∀ y ∈ L0 ++ L1, y.1 ≠ g) : (L0 ++ ([(g, t, cs)] ++ L1)).Pairwise (fun x y => x.1 ≠ y.1) := by
  obtain ⟨p1, p2, p3⟩ := List.pairwise_append.1 h; refine List.pairwise_append.2 ⟨p1, List.pairwise_cons.2 ⟨fun y hy e => hn y (by simp [List.mem_append.2 (.inr hy)]; exact .inr hy) e.symm, p2⟩, ?_⟩; intro x hx y hy; rcases List.mem_cons.1 hy with rfl | hy
  · exact hn x (List.mem_append.2 (.inl hx))
  · exact p3 x hx y hy
theorem Gw.grow {n m : Nat} {v v' : Sv} {xs ys : List Value} {w' : World} (hG : Gw E z G v n xs) (H : Loc w0 D (L0 ++ (G ++ L1)) w) (hm : 0 < m) (hown : w'.ownsRow 0 E z v'.v (n + m) (xs ++ ys)) (hg : w.grownBy w' v.v.ownBlock)
    (hb : ∀ k, v'.v.ownBlock = some k → v.v.ownBlock = some k ∨ k = w.heap.size) : ∃ G', Gw E z G' v' (n + m) (xs ++ ys) ∧ Loc w0 D (L0 ++ (G' ++ L1)) w' := by
  obtain ⟨hl', ⟨_, h0⟩ | ⟨g', cap', cur, hv', _, hk, hn', hm', hs', ht'⟩⟩ := hown
  · omega
  have hsub : (L0 ++ L1).Sublist (L0 ++ (G ++ L1)) := List.Sublist.append (List.Sublist.refl _) (sA _ _); have hcur : cur.toList = (xs ++ ys) ++ cur.toList.drop ((n + m) * z) := by rw [← ht', List.take_append_drop]
  have hblk : Blk w' g' E ((xs ++ ys) ++ cur.toList.drop ((n + m) * z)) := by
    unfold Blk; rw [hk, ← hcur]
  have hnew : ¬ D g' ∧ ∀ y ∈ L0 ++ L1, y.1 ≠ g' := by
    have h1 := hb g' (by rw [hv']; rfl)
    have h2 : g' = w.heap.size → ¬ D g' ∧ ∀ y ∈ L0 ++ L1, y.1 ≠ g' := by
      intro e; refine ⟨fun hd => by have := H.lt hd; omega, fun y hy e2 => ?_⟩; have := (H.own y (hsub.subset hy)).2.lt; omega
    rcases h1 with h1 | h1
    · obtain ⟨_, ⟨rfl, rfl, rfl⟩ | ⟨g, cap, tl, rfl, rfl, _, _, _⟩⟩ := hG
      · cases h1
      · have e : g = g' := by injection h1
        subst e; refine ⟨(H.own (g, E, xs ++ tl) (by simp)).1, fun y hy e2 => ?_⟩; obtain ⟨p1, p2, p3⟩ := List.pairwise_append.1 H.nd; obtain ⟨p4, p5⟩ := List.pairwise_cons.1 p2; rcases List.mem_append.1 hy with hy | hy
        · exact p3 y hy (g, E, xs ++ tl) (by simp) e2
        · exact p4 y hy e2.symm
    · exact h2 h1
  have hold : ∀ k, v.v.ownBlock = some k → ¬ D k ∧ ∀ y ∈ L0 ++ L1, y.1 ≠ k := by
    intro k e; obtain ⟨_, ⟨rfl, rfl, rfl⟩ | ⟨g, cap, tl, rfl, rfl, _, _, _⟩⟩ := hG
    · cases e
    · have e : g = k := by injection e
      subst e; refine ⟨(H.own (g, E, xs ++ tl) (by simp)).1, fun y hy e2 => ?_⟩; obtain ⟨p1, p2, p3⟩ := List.pairwise_append.1 H.nd; obtain ⟨p4, p5⟩ := List.pairwise_cons.1 p2; rcases List.mem_append.1 hy with hy | hy
      · exact p3 y hy (g, E, xs ++ tl) (by simp) e2
      · exact p4 y hy e2.symm
  refine ⟨[(g', E, (xs ++ ys) ++ cur.toList.drop ((n + m) * z))], ⟨hl', .inr ⟨g', cap', _, rfl, ?_, hn', hm', ?_⟩⟩, ?_, ?_, ?_, H.old⟩
  · cases v'
    simp only [Sv.v] at hv'; injection hv' with e1 e2 e3; subst e1 e2 e3; rfl
  · rw [← hcur]; simpa using hs'
  · exact H.fr.grown hg (fun k e => .inl (hold k e).1)
  · intro x hx
    rcases List.mem_append.1 hx with hx1 | hx1
    · have hx2 := H.own x (hsub.subset (List.mem_append.2 (.inl hx1)))
      exact ⟨hx2.1, hx2.2.grown hg (fun e => (hold x.1 e.symm).2 x (List.mem_append.2 (.inl hx1)) rfl)⟩
    · rcases List.mem_cons.1 hx1 with rfl | hx1
      · exact ⟨hnew.1, hblk⟩
      · have hx2 := H.own x (hsub.subset (List.mem_append.2 (.inr hx1)))
        exact ⟨hx2.1, hx2.2.grown hg (fun e => (hold x.1 e.symm).2 x (List.mem_append.2 (.inr hx1)) rfl)⟩
  · exact pw_mid (H.nd.sublist hsub) hnew.2
theorem xa9 (B : ST P T E z) (I : ET P E zv z b) (s x : Operand) (ho : o.op = .call { callee := .builtin .append, args := #[s, x], argTypes := #[T, T] }) (L0 : List (Nat × Nat × List Value)) (n : Nat) (v : Sv) (xs : List Value) (hG : Gw E z G v n xs) (H : Loc w0 D (L0 ++ (G ++ L1)) w) (hs : a.eval s = v.v)
    (ad : Addr) (m c : Nat) (ys : List Value) (hx : a.eval x = .slice (some ad) m c) (hr : Rd w (some ad) ys) (hy : ys.length = m * z) (h1 : ∀ u ∈ ys, u.oneCell' = true) (hm : 0 < m) (hbytes : (n + m) * b ≤ 140737488355328) (h63 : n + m ≤ 140737488355328)
    (h : ∀ (v' : Sv) G' w', Gw E z G' v' (n + m) (xs ++ ys) → Loc w0 D (L0 ++ (G' ++ L1)) w' → K (a.put o.dst v'.v) w') : o.wp P a w K Q := by
  refine xd4 B I s x ho v n xs hs (hG.owns H) ad m c ys hx hr hy h1 hm hbytes h63 ?_; intro v' w' h2 h3 h4 _; obtain ⟨G', h5, h6⟩ := hG.grow H hm h2 h3 h4; exact h v' G' w' h5 h6
theorem xiw (B : ST P T E z) (I : ET P E zv z b) (ty : TypeId) (v : Sv) (hv : v.n ≤ v.c) (A : Option Addr) (c : Nat) : (Builtin.append_ #[T, T] ty #[v.v, .slice A 0 c]).run P w = .ok v.v w := by
  obtain ⟨i, hi, hzz, hsz, _⟩ := info_parts I.i; obtain ⟨B1, n, c1⟩ := v; have hv' : ¬ c1 < n := by have : n ≤ c1 := hv; omega
  cases A <;> cases B1 <;> simp [Sv.v, Builtin.append_, run_underlying B.t, sizeOf, typeInfo, hi, Builtin.lenOf, Builtin.firstCells, loadCells, loadCellsFrom, storeCells, hv']
theorem xem (B : ST P T E z) (I : ET P E zv z b) (s x : Operand) (ho : o.op = .call { callee := .builtin .append, args := #[s, x], argTypes := #[T, T] }) (L0 : List (Nat × Nat × List Value)) (n : Nat) (v : Sv) (xs : List Value) (hG : Gw E z G v n xs) (H : Loc w0 D (L0 ++ (G ++ L1)) w) (hs : a.eval s = v.v)
    (A : Option Addr) (m c : Nat) (ys : List Value) (hx : a.eval x = .slice A m c) (hr : Rd w A ys) (hy : ys.length = m * z) (h1 : ∀ u ∈ ys, u.oneCell' = true) (hbytes : (n + m) * b ≤ 140737488355328) (h63 : n + m ≤ 140737488355328)
    (h : ∀ (v' : Sv) G' w', Gw E z G' v' (n + m) (xs ++ ys) → Loc w0 D (L0 ++ (G' ++ L1)) w' → K (a.put o.dst v'.v) w') : o.wp P a w K Q := by
  by_cases h0 : m = 0
  · subst h0
    have : ys = [] := List.eq_nil_of_length_eq_zero (by omega); subst this; have hrun := xiw (w := w) B I o.type v hG.cap.1 A c; unfold Oper.wp execOp; simp only [ho, resolve, invoke, builtin, Sem.run_bind, Sem.run_pure, Result.andThen_ok, List.map_toArray, qk, ql, hs, hx, hrun]; exact h v G w (by simpa using hG) H
  · have hp := I.p
    obtain ⟨ad, rfl, _⟩ := hr (by rw [hy]; exact Nat.mul_pos (by omega) hp); exact xa9 B I s x ho L0 n v xs hG H hs ad m c ys hx hr hy h1 (by omega) hbytes h63 h
theorem xcx (B : ST P T E 1) (I : ET P E zv 1 b) (n : Nat) (parts : Array (Nat × Operand)) (ho : o.op = .buildSlice T n parts) (H : Loc w0 D L w) (vs : List Value) (h1 : ∀ u ∈ vs, u.oneCell' = true) (hn : vs.length = n) (h0 : 0 < n) (hm : n ≤ 10000)
    (hx : (parts.map fun (i, x) => (i, a.eval x)).toList = (vs.zipIdx 0).map fun x => (x.2, x.1)) (h : ∀ g w', Loc w0 D ((g, E, vs) :: L) w' → K (a.put o.dst (.slice (some ⟨g, 0, none⟩) n n)) w') : o.wp P a w K Q := by
  obtain ⟨i, hi, hzz, hsz, _⟩ := info_parts I.i; refine wp_buildSlice T E n _ ho vs.toArray i _ B.t hi hzz (by rw [hsz]; omega) (by rw [hsz]; omega) ?_ (h _ _ (H.new E vs)); have hc : ∀ v ∈ vs, v.cells = #[v] := fun v hv => by have := h1 v hv; cases v <;> first | rfl | (simp [Value.oneCell'] at this)
  rw [hx, hsz, Great.fill_whole (by omega) _ _ ?_ ?_]
  · congr 2
    clear hx hn h
    induction vs with
    | nil => rfl
    | cons v vs ih =>
      rw [List.flatMap_cons, hc v (by simp), ih (fun u hu => h1 u (by simp [hu])) (fun u hu => hc u (by simp [hu]))]; rfl
  · intro u hu
    rw [hc u hu]; rfl
  · simp [hn]
theorem Loc.perm (H : Loc w0 D L w) {L' : List (Nat × Nat × List Value)} (hp : L'.Perm L) : Loc w0 D L' w :=
  ⟨H.fr, fun x hx => H.own x (hp.subset hx), (hp.symm.pairwise H.nd (fun h e => h e.symm)), H.old⟩
theorem Loc.took {w' : World} {v : Value} {l : List UInt8} (H : Loc w0 D L w) (hb : Below w.heap.size w w') (ho : OwnB w' w.heap.size E v l) : ∃ G sv, v = Sv.v sv ∧ Gw E 1 G sv l.length (bvs l) ∧ Loc w0 D (L ++ (G ++ [])) w' := by
  have H' := H.next hb; rcases ho with ⟨rfl, rfl⟩ | ⟨g, sp, rfl, hg, hm, hk⟩
  · exact ⟨[], Sv.nil, rfl, Gw.nil _ _, by simpa using H'⟩
  · refine ⟨[(g, E, bvs l ++ bvs sp)], ⟨some ⟨g, 0, none⟩, l.length, l.length + sp.length⟩, rfl, ⟨by simp [bvs], .inr ⟨g, l.length + sp.length, bvs sp, rfl, rfl, by omega, hm, by simp [bvs]⟩⟩, H'.fr, ?_, ?_, H'.old⟩
    · intro x hx
      rcases List.mem_append.1 hx with hx | hx
      · exact H'.own x hx
      · simp at hx
        subst hx; exact ⟨fun hd => by have := H.lt hd; omega, by rw [← xb2]; exact hk⟩
    · refine List.pairwise_append.2 ⟨H'.nd, by simp, fun x hx y hy e => ?_⟩
      simp at hy; subst hy; have := (H.own x hx).2.lt; have e' : x.1 = g := e; omega
theorem wp_makeB {T E S : TypeId} (B : BT P T E S) (l c : Operand) (ho : o.op = Op.makeSlice T l c) (H : Loc w0 D L w) (kl kc : IntKind) (n m : Nat) (hl : a.eval l = .int kl n) (hc : a.eval c = .int kc m) (hnc : n ≤ m) (hm : m ≤ 281474976710656)
    (h : ∀ g w', Loc w0 D ((g, E, bvs (List.replicate m 0)) :: L) w' → K (a.put o.dst (.slice (some ⟨g, 0, none⟩) n m)) w') : o.wp P a w K Q := by
  have hr := xec (w := w) B kl kc n m hnc hm; unfold Oper.wp execOp; simp only [ho, hl, hc, Sem.run_bind, hr, Result.andThen_ok]; exact h _ _ (H.new E (bvs (List.replicate m 0)))
theorem xh0 (B : W1 P T) (x y : Operand) (ho : o.op = .store T x y) (H : Loc w0 D L w) (i g k t : Nat) (cs cs' : List Value) (v : Value) (hx : a.eval x = .pointer (some ⟨g, k, none⟩)) (hL : L[i]? = some (g, t, cs))
    (hy : a.eval y = v) (h1 : v.oneCell' = true) (hf : k < cs.length) (hc : cs.set k v = cs') (h : ∀ w', Loc w0 D (L.set i (g, t, cs')) w' → K (a.put o.dst undef) w') : o.wp P a w K Q := by
  have hb := H.blk (List.mem_of_getElem? hL); refine xb9 B.i x y ho g k t cs v hx hy h1 hb hf (h _ ?_); refine H.putAt hL ?_ (xcp _ _ _ _); rw [← hc]; exact hb.set_ k v
end
structure Made (w w' : World) (g t : Nat) (f : Value → List Value) (A : Option Addr) (c : Nat) (l : List UInt8) : Prop where
  blk : Blk w' g t (f (.slice A l.length c))
  cap : l.length ≤ c
  max : c ≤ maxLen
  rd : Rd w' A (bvs l)
  far : ∀ ad, A = some ad → ad.block ≠ g ∧ w.heap.size ≤ ad.block ∧ ad.block < w'.heap.size
  new : w.heap.size ≤ g
  bel : Below w.heap.size w w'
theorem OwnB.addr {w : World} {base E n c : Nat} {A : Option Addr} {l : List UInt8} (h : OwnB w base E (.slice A n c) l) : ∀ ad, A = some ad → base ≤ ad.block ∧ ad.block < w.heap.size := by
  rintro ad rfl; exact h.lt ad.block rfl
theorem xi1 (A : Option Addr) (n c : Nat) (l : List UInt8) (w : World) (hr : Rd w A (bvs l)) (hl : l.length = n) (hn : n ≤ 140737488351232) :
    Calls Tryz.prog 52 #[.slice A n c] w fun e w' => ∃ g A' c', e = .returned (.pointer (some ⟨g, 0, none⟩)) ∧ Made w w' g 195 (fun v => [.bool true, .bool false, v]) A' c' l := by
  have HL := hZ hl; subst hl
  have ho : OwnB (w.alloc (.cells #[] 5)) w.heap.size 5 (.slice (some ⟨w.heap.size, 0, none⟩) 0 0) [] :=
    .inr ⟨w.heap.size, [], rfl, by omega, by simp, by simpa [bvs] using Blk.new w 5 []⟩
  have hrd1 : Rd (w.alloc (.cells #[] 5)) A (bvs l) := hr.alloc _; have hB1 : Below w.heap.size w (w.alloc (.cells #[] 5)) := (Below.refl _ _).alloc (Nat.le_refl _) _; go_enter Tryz.func52, Tryz.ntmps52
  go_wp2_with (
    (with_reducible refine xat 5 ?_); refine xbv bt rfl (.tmp 3) (.tmp 4) rfl w.heap.size _ [] rfl ho A l.length c l rfl rfl hrd1 (by simp; omega) (by simp) ?_; intro v1 w1 ho1 hg1 _; have ho2 : OwnB w1 w.heap.size 5 v1 l := by simpa using ho1
    obtain ⟨A', c', rfl, hcl, hcm, hrd⟩ := ho2.rd)
  go_ret; have hB2 : Below w.heap.size w w1 := hB1.grown hg1 hB1.size (fun k hk => (ho.lt k hk).1); refine ⟨w1.heap.size, rfl, A', c', Blk.new w1 195 _, hcl, hcm, hrd.alloc _, ?_, hB2.size, hB2.alloc hB2.size _⟩; intro ad e; have := ho2.addr ad e; exact ⟨by omega, this.1, by simp; omega⟩
section
variable {P : Program} {T E : TypeId} {w0 w1 w w' : World} {D : Nat → Prop} {L L0 L1 : List (Nat × Nat × List Value)} {ops : Array Oper} {rest : List Oper} {o : Oper} {a : Act} {K : Act → World → Prop} {Q : Exit → Act → World → Prop}
theorem Loc.out {x : Nat × Nat × List Value} (H : Loc w0 D (L0 ++ (x :: L1)) w) : Loc w0 D (L0 ++ L1) w ∧ Blk w x.1 x.2.1 x.2.2 ∧ ¬ D x.1 ∧ ∀ y ∈ L0 ++ L1, y.1 ≠ x.1 := by
  have hsub : (L0 ++ L1).Sublist (L0 ++ (x :: L1)) := List.Sublist.append (List.Sublist.refl _) (sB _ _); have h1 := H.own x (by simp); refine ⟨H.drop _ hsub, h1.2, h1.1, fun y hy e => ?_⟩; obtain ⟨p1, p2, p3⟩ := List.pairwise_append.1 H.nd; rcases List.mem_append.1 hy with hy | hy
  · exact p3 y hy x (by simp) e
  · exact (List.pairwise_cons.1 p2).1 y hy e.symm
theorem Loc.aside (H : Loc w0 D L w) {g : Nat} (hg : w.grownBy w' (some g)) (hD : ¬ D g) (hn : ∀ y ∈ L, y.1 ≠ g) : Loc w0 D L w' :=
  H.frame (T := (· = g)) ((Fr.refl (· = g) w).grown hg (fun k hk => .inl (by cases hk; rfl))) (fun k hk => hk ▸ hD) (fun x hx => hn x hx)
theorem Loc.putF (H : Loc w0 D L w) {i g t : Nat} {cs cs' : List Value} (hL : L[i]? = some (g, t, cs)) (hb : Blk w' g t cs') (hf : Fr (· = g) w w') : Loc w0 D (L.set i (g, t, cs')) w' := by
  have hi : i < L.length := (List.getElem?_eq_some_iff.1 hL).1; have hm : (g, t, cs) ∈ L := List.mem_of_getElem? hL; have hgD := (H.own _ hm).1; have e : L.set i (g, t, cs') = L.take i ++ (g, t, cs') :: L.drop (i + 1) := List.set_eq_take_append_cons_drop ▸ by rw [if_pos hi]
  have e0 : L = L.take i ++ (g, t, cs) :: L.drop (i + 1) := by
    have h3 : L[i] = (g, t, cs) := by rw [List.getElem?_eq_getElem hi] at hL; simpa using hL
    rw [← h3, List.getElem_cons_drop, List.take_append_drop]
  have H0 := H; rw [e0] at H0; obtain ⟨h1, _, _, h4⟩ := H0.out; have h5 := h1.frame (T := (· = g)) hf (fun k hk => hk ▸ hgD) (fun x hx => h4 x hx); rw [e]; refine ⟨h5.fr, ?_, ?_, H.old⟩
  · intro x hx
    rcases List.mem_append.1 hx with hx | hx
    · exact h5.own x (List.mem_append.2 (.inl hx))
    · rcases List.mem_cons.1 hx with rfl | hx
      · exact ⟨hgD, hb⟩
      · exact h5.own x (List.mem_append.2 (.inr hx))
  · have := pw_mid (g := g) (t := t) (cs := cs') h5.nd h4
    simpa using this
theorem Loc.back (H1 : Loc w0 (Old w0) L0 w1) (H2 : Loc w1 (Rest w1 L0) L w) : Below w0.heap.size w0 w := by
  have hr : ∀ k, k < w0.heap.size → Rest w1 L0 k := fun k hk => ⟨Nat.lt_of_lt_of_le hk H1.fr.size, fun x hx e => (H1.own x hx).1 (by rw [e]; exact hk)⟩
  refine Fr.to_below (S := fun k => ¬ Rest w1 L0 k) ⟨H2.fr.os.trans H1.fr.os, H2.fr.tape.trans H1.fr.tape, H2.fr.output.trans H1.fr.output, Nat.le_trans H1.fr.size H2.fr.size, fun k hk hn => ?_⟩ (fun k hk hn => absurd (hr k hk) hn); exact (H2.fr.block k (Nat.lt_of_lt_of_le hk H1.fr.size) hn).trans (H1.fr.block k hk (fun n => n hk))
def RdL (w1 : World) (D : Nat → Prop) (cs : List Value) : Option (List UInt8) → Prop
  | none => ∃ A n c, cs = [.bool true, .bool true, .slice A n c]
  | some l => ∃ A n c, cs = [.bool true, .bool false, .slice A n c] ∧ Rd w1 A (bvs l) ∧ l.length = n ∧ n ≤ c ∧ c ≤ maxLen ∧ ∀ ad, A = some ad → D ad.block
theorem RdL.p (H : Loc w1 D L w) {i g : Nat} {cs : List Value} {st : Option (List UInt8)} (hL : L[i]? = some (g, 195, cs)) (h : RdL w1 D cs st) : RdP (fun k => ¬ D k) w g st := by
  have hb := H.blk (List.mem_of_getElem? hL)
  cases st with
  | none => obtain ⟨A, n, c, rfl⟩ := h; exact ⟨A, n, c, hb⟩
  | some l =>
    obtain ⟨A, n, c, rfl, h1, h2, h3, h4, h5⟩ := h; exact ⟨A, n, c, hb, h2, h3, h4, H.rd h5 h1, fun ad e => not_not_intro (h5 ad e)⟩
theorem RdL.of (H : Loc w1 D L w) {g : Nat} {st : Option (List UInt8)} (h : RdP (fun k => ¬ D k) w g st) : ∃ cs, Blk w g 195 cs ∧ RdL w1 D cs st := by
  cases st with
  | none => obtain ⟨A, n, c, hb⟩ := h; exact ⟨_, hb, A, n, c, rfl⟩
  | some l =>
    obtain ⟨A, n, c, hb, h1, h2, h3, h4, h5⟩ := h; refine ⟨_, hb, A, n, c, rfl, ?_, h1, h2, h3, fun ad e => Classical.not_not.1 (h5 ad e)⟩; intro hn; obtain ⟨ad, e, hc⟩ := h4 hn; refine ⟨ad, e, fun k u hu => ?_⟩; have h6 := hc k u hu
    have hd : D (ad.add k).block := by
      have : (ad.add k).block = ad.block := by unfold Addr.add; split <;> rfl
      rw [this]; exact Classical.not_not.1 (h5 ad e)
    rwa [World.cell?_of_block (w := w1) (H.heap hd)] at h6
theorem Loc.tookN {N : Nat} {v : Value} {l : List UInt8} (H : Loc w0 D L w) (hD : ∀ k, D k → k < N) (hL : ∀ x ∈ L, x.1 < N) (ho : OwnB w N E v l) : ∃ G sv, v = Sv.v sv ∧ Gw E 1 G sv l.length (bvs l) ∧ Loc w0 D (L ++ (G ++ [])) w := by
  rcases ho with ⟨rfl, rfl⟩ | ⟨g, sp, rfl, hg, hm, hk⟩
  · exact ⟨[], Sv.nil, rfl, Gw.nil _ _, by simpa using H⟩
  · refine ⟨[(g, E, bvs l ++ bvs sp)], ⟨some ⟨g, 0, none⟩, l.length, l.length + sp.length⟩, rfl, ⟨by simp [bvs], .inr ⟨g, l.length + sp.length, bvs sp, rfl, rfl, by omega, hm, by simp [bvs]⟩⟩, H.fr, ?_, ?_, H.old⟩
    · intro x hx
      rcases List.mem_append.1 hx with hx | hx
      · exact H.own x hx
      · simp at hx
        subst hx; exact ⟨fun hd => by have := hD _ hd; omega, by rw [← xb2]; exact hk⟩
    · refine List.pairwise_append.2 ⟨H.nd, by simp, fun x hx y hy e => ?_⟩
      simp at hy; subst hy; have := hL x hx; have e' : x.1 = g := e; omega
theorem xlx {i g : Nat} {cs : List Value} {st : Option (List UInt8)} (H : Loc w1 D L w) (hL : L[i]? = some (g, 195, cs)) (hR : RdL w1 D cs st) (k : Int) (hk : -9223372036854775808 ≤ k ∧ k ≤ 9223372036854775807) (hb : ∀ l, st = some l → l.length ≤ 140737488351232) :
    Calls Tryz.prog 53 #[.pointer (some ⟨g, 0, none⟩), .int .i64 k] w fun e w' => ∃ G sv cs', e = .returned (Sv.v sv) ∧ Gw 5 1 G sv (xd1 st k).length (bvs (xd1 st k)) ∧ RdL w1 D cs' (xcg st k) ∧ Loc w1 D ((L.set i (g, 195, cs')) ++ (G ++ [])) w' := by
  refine (xnf g st k w (hR.p H hL) (H.own _ (List.mem_of_getElem? hL)).1 hk hb).mono ?_; rintro e w' ⟨v, rfl, h1, h2, h3⟩; have hgD := (H.own _ (List.mem_of_getElem? hL)).1; have H' : Loc w1 D [] w' := (H.drop [] (List.nil_sublist _)).frame (T := (· = g)) h3 (fun k hk => hk ▸ hgD) (fun x hx => by simp at hx); obtain ⟨cs', h4, h5⟩ := RdL.of H' h2
  obtain ⟨G, sv, rfl, h6, h7⟩ := (H.putF hL h4 h3).tookN (fun k hk => H.lt hk) (fun x hx => by
    rcases List.mem_or_eq_of_mem_set hx with hx | rfl
    · exact (H.own x hx).2.lt
    · exact (H.own _ (List.mem_of_getElem? hL)).2.lt) h1
  exact ⟨G, sv, cs', rfl, h6, h5, h7⟩
theorem u16_L {i g : Nat} {cs : List Value} {st : Option (List UInt8)} (H : Loc w1 D L w) (hL : L[i]? = some (g, 195, cs)) (hR : RdL w1 D cs st) (hb : ∀ l, st = some l → l.length ≤ 140737488351232) :
    Calls Tryz.prog 58 #[.pointer (some ⟨g, 0, none⟩)] w fun e w' => e = .returned (.int .i64 (numL st 2 : Nat)) ∧ ∃ cs', RdL w1 D cs' (xcg st 2) ∧ Loc w1 D (L.set i (g, 195, cs')) w' := by
  refine (u16_any g st w (hR.p H hL) (H.own _ (List.mem_of_getElem? hL)).1 hb).mono ?_; rintro e w' ⟨rfl, h2, h3⟩; have hgD := (H.own _ (List.mem_of_getElem? hL)).1; have H' : Loc w1 D [] w' := (H.drop [] (List.nil_sublist _)).frame (T := (· = g)) h3 (fun k hk => hk ▸ hgD) (fun x hx => by simp at hx); obtain ⟨cs', h4, h5⟩ := RdL.of H' h2; exact ⟨rfl, cs', h5, H.putF hL h4 h3⟩
theorem xnk {i g : Nat} {cs : List Value} {st : Option (List UInt8)} (H : Loc w1 D L w) (hL : L[i]? = some (g, 195, cs)) (hR : RdL w1 D cs st) :
    Calls Tryz.prog 59 #[.pointer (some ⟨g, 0, none⟩)] w fun e w' => e = .returned (.bool (badB st)) ∧ w = w' := bad_any g st w (hR.p H hL)
theorem done_L {i g : Nat} {cs : List Value} {st : Option (List UInt8)} (H : Loc w1 D L w) (hL : L[i]? = some (g, 195, cs)) (hR : RdL w1 D cs st) :
    Calls Tryz.prog 54 #[.pointer (some ⟨g, 0, none⟩)] w fun e w' => e = .returned (.bool (doneB st)) ∧ w = w' := done_any g st w (hR.p H hL)
theorem Loc.reader {g c : Nat} {A : Option Addr} {l : List UInt8} (H : Loc w0 (Old w0) L w) (M : Made w w' g 195 (fun v => [.bool true, .bool false, v]) A c l) :
    Loc w0 (Old w0) ((g, 195, [.bool true, .bool false, .slice A l.length c]) :: L) w' ∧ Loc w' (Rest w' ((g, 195, [.bool true, .bool false, .slice A l.length c]) :: L)) ((g, 195, [.bool true, .bool false, .slice A l.length c]) :: L) w' ∧
      RdL w' (Rest w' ((g, 195, [.bool true, .bool false, .slice A l.length c]) :: L)) [.bool true, .bool false, .slice A l.length c] (some l) := by
  have H' := H.next M.bel
  have H1 : Loc w0 (Old w0) ((g, 195, [.bool true, .bool false, .slice A l.length c]) :: L) w' := by
    refine ⟨H'.fr, ?_, ?_, H'.old⟩
    · intro x hx
      rcases List.mem_cons.1 hx with rfl | hx
      · exact ⟨fun hd => by have h1 := H.lt hd; have h2 := M.new; have h3 : g < w.heap.size := h1; omega, M.blk⟩
      · exact H'.own x hx
    · refine List.pairwise_cons.2 ⟨fun y hy e => ?_, H'.nd⟩
      have h1 := (H.own y hy).2.lt; have h2 := M.new; have e' : g = y.1 := e; omega
  refine ⟨H1, H1.redo (Fr.refl (fun _ => False) _) (fun _ _ h => h), A, l.length, c, rfl, M.rd, rfl, M.cap, M.max, fun ad e => ?_⟩; obtain ⟨h1, h2, h3⟩ := M.far ad e; refine ⟨h3, fun x hx e2 => ?_⟩; rcases List.mem_cons.1 hx with rfl | hx
  · exact h1 e2.symm
  · have := (H.own x hx).2.lt
    omega
theorem xbp (B : W1 P T) (x : Operand) (ho : o.op = .load T x) (ad : Addr) (i : Nat) (vs : List Value) (v : Value) (hx : a.eval x = .pointer (some (ad.add i))) (hr : Rd w (some ad) vs) (hv : vs[i]? = some v) :
    (execOp a.eval o).run P w = .ok (.value v) w := by
  obtain ⟨d, hu, hd⟩ := B.u; have hi := (List.getElem?_eq_some_iff.1 hv).1; obtain ⟨ad', e, hc⟩ := hr (by omega); cases e; exact xb0 hu hd x ho _ _ hx (hc i v hv)
end
end Go.Proofs.YtkjjdgnkelchfaaGreat
namespace Go.Proofs.YtkjjdgnkelchfaaGreat
open Go Go.RowKit Go.ChangeShapes Go.WideShapes Go.ChangeAt
section
variable {P : Program} (w : World)
end
section
variable {P : Program} {H : Type} {enc : TypeId × Value → H} {W : World} {base : Nat}
end
theorem ab25 : AB Tryz.prog 23 32 := ⟨⟨5, Tryz.underlying23, Tryz.underlying5, by kernel_rfl⟩, by kernel_rfl⟩
end Go.Proofs.YtkjjdgnkelchfaaGreat
namespace Go.Proofs.YtkjjdgnkelchfaaGreat
open Go Go.RowKit
def digL : List UInt8 := [48, 49, 50, 51, 52, 53, 54, 55, 56, 57, 97, 98, 99, 100, 101, 102]
def dig (k : Nat) : UInt8 := digL.getD k 0
def hexs (l : List UInt8) : List UInt8 := l.flatMap fun x => [dig (x.toNat / 16), dig (x.toNat % 16)]
def hexL (l : List UInt8) : List UInt8 := if l.length = 0 then [45] else hexs l
theorem xim (l : List UInt8) : (hexs l).length = 2 * l.length := by
  induction l with
  | nil => rfl
  | cons x l ih =>
    unfold hexs at ih ⊢; rw [List.flatMap_cons, List.length_append, ih]
    simp; omega
theorem xr7 (l : List UInt8) (k : Nat) (h : k < l.length) : hexs (l.take (k + 1)) = hexs (l.take k) ++ [dig ((l[k]).toNat / 16), dig ((l[k]).toNat % 16)] := by
  rw [List.take_succ_eq_append_getElem h]; unfold hexs; rw [List.flatMap_append]; simp
section
variable {P : Program} {w : World} {ops : Array Oper} {o : Oper} {a : Act} {Q : Exit → Act → World → Prop}
theorem xef {T : TypeId} (hT : P.underlying T = some .string) (x i : Operand) (ho : o.op = .index T x i) (t : List UInt8) (hx : a.eval x = .string ⟨t.toArray⟩) (k : IntKind) (j : Nat) (hi : a.eval i = .int k (j : Int)) (h : j < t.length) :
    (execOp a.eval o).run P w = .ok (.value (.int .u8 ((t[j]).toNat : Int))) w := by
  have hs : (0 : Int) ≤ (j : Int) ∧ (j : Int) < ((⟨t.toArray⟩ : ByteArray).size : Int) := ⟨by omega, by
    show (j : Int) < ((t.toArray.size : Nat) : Int)
    simp; exact h⟩
  have hr := run_index_string (P := P) w T ⟨t.toArray⟩ k (j : Int) hT; rw [dif_pos hs] at hr; unfold execOp; simp only [ho, hx, hi, Sem.run_bind, hr, Result.andThen_ok, Sem.run_pure]; rfl
theorem xix {T E S : TypeId} (B : BT P T E S) (ty g : Nat) (l sp : List UInt8) (hb : Blk w g E (bvs (l ++ sp))) (A : Option Addr) (m c : Nat) (y : List UInt8) (hy : y.length = m) (hr : Rd w A (bvs y)) (h0 : 0 < m) (hm : m ≤ sp.length) (hmax : l.length + sp.length ≤ maxLen) :
    ∃ w', (Builtin.append_ #[T, T] ty #[.slice (some ⟨g, 0, none⟩) l.length (l.length + sp.length), .slice A m c]).run P w = .ok (.slice (some ⟨g, 0, none⟩) (l.length + m) (l.length + sp.length)) w' ∧
      Blk w' g E (bvs (l ++ y ++ sp.drop m)) ∧ w.grownBy w' (some g) ∧ w'.heap.size = w.heap.size := by
  obtain ⟨i, hi, hz, hsz, hbb⟩ := info_parts B.i; subst hy; obtain ⟨ad, rfl, hc⟩ := hr (by rw [xae]; exact h0); have hml : (maxLen : Nat) = 9223372036854775807 := rfl; have hrun := run_append_room (P := P) w T ty E i B.t hi g l.length (l.length + sp.length) (bvs (l ++ sp)).toArray hb ad y.length c (bvs y) (by simp [bvs, hsz]) hc (xbo _) (by omega) (by simp [bvs, hsz]; omega)
  have e : ((bvs (l ++ sp)).toArray.toList.take (l.length * i.size) ++ bvs y ++ (bvs (l ++ sp)).toArray.toList.drop (l.length * i.size + (bvs y).length)) = bvs (l ++ y ++ sp.drop y.length) := by
    simp only [bvs, hsz, List.map_append, Nat.mul_one, List.length_map]; congr 1
    · congr 1
      exact List.take_left' (by simp)
    · rw [List.drop_append, List.map_drop]; simp
  have h1 := hb.row (bvs (l ++ y ++ sp.drop y.length)); rw [e] at hrun; exact ⟨_, hrun, h1, xdd w g _, by simp⟩
theorem xju {T E S : TypeId} (B : BT P T E S) {K : Act → World → Prop} (s x : Operand) (ho : o.op = .call { callee := .builtin .append, args := #[s, x], argTypes := #[T, T] }) (g : Nat) (l sp : List UInt8) (n cap : Nat) (hn : l.length = n) (hcap : l.length + sp.length = cap)
    (hs : a.eval s = .slice (some ⟨g, 0, none⟩) n cap) (hb : Blk w g E (bvs (l ++ sp))) (A : Option Addr) (m c : Nat) (y : List UInt8) (hx : a.eval x = .slice A m c) (hy : y.length = m) (hr : Rd w A (bvs y)) (h0 : 0 < m) (hm : m ≤ sp.length) (hmax : cap ≤ maxLen)
    (h : ∀ w', Blk w' g E (bvs (l ++ y ++ sp.drop m)) → w.grownBy w' (some g) → w'.heap.size = w.heap.size → K (a.put o.dst (.slice (some ⟨g, 0, none⟩) (n + m) cap)) w') : o.wp P a w K Q := by
  subst hn; subst hcap; obtain ⟨w', hrun, h1, h2, h3⟩ := xix B o.type g l sp hb A m c y hy hr h0 hm hmax; unfold Oper.wp execOp; simp only [ho, resolve, invoke, builtin, Sem.run_bind, Sem.run_pure, Result.andThen_ok, List.map_toArray, qk, ql, hs, hx, hrun]; exact h w' h1 h2 h3
end
theorem and15 (x : Nat) (hx : x < 256) : bits .and .u8 (x : Int) 15 = ((x % 16 : Nat) : Int) := by
  have := u8_and_nat x 15 hx (by omega); rw [nat_mask4] at this; exact this
theorem dig_at (k : Nat) (h : k < 16) : digL[k]'(by simp [digL]; omega) = dig k := by
  unfold dig; rw [List.getD_eq_getElem?_getD, List.getElem?_eq_getElem (by simp [digL]; omega)]; rfl
theorem hex_any (A : Option Addr) (n c : Nat) (l : List UInt8) (w : World) (hr : Rd w A (bvs l)) (hl : l.length = n) (hn : n ≤ 140737488351232) :
    Calls Tryz.prog 45 #[.slice A n c] w fun e w' => e = .returned (.string ⟨(hexL l).toArray⟩) ∧ Below w.heap.size w w' := by
  have HL := hZ hl; by_cases h0 : n = 0
  · subst h0
    have e : hexL l = [45] := by unfold hexL; rw [if_pos hl]
    rw [e]; clear e hl; go_enter Tryz.func45, Tryz.ntmps45
    go_wp2
    go_ret; exact ⟨rfl, Below.refl _ _⟩
  · have e : hexL l = hexs l := by unfold hexL; rw [if_neg (by omega)]
    rw [e]; clear e hl; go_enter Tryz.func45, Tryz.ntmps45; go_wp2_with ((with_reducible refine xat 12 ?_); refine xgy bt rfl _ _ rfl .i64 .i64 0 (2 * n) rfl (by go_num) (Nat.zero_le _) (by omega) ?_; intro w1 hb1 hw1 hs1); have hb0 : Blk w1 w.heap.size 5 (bvs (hexs (l.take 0) ++ List.replicate (2 * n - 2 * 0) 0)) := by simpa [hexs] using hb1
    clear hb1
    go_loopw [3, 15] (fun out i wr => ∃ k : Nat, k ≤ n ∧ i = .int .i64 (k : Int) ∧ out = .slice (some ⟨w.heap.size, 0, none⟩) (2 * k) (2 * n) ∧ Blk wr w.heap.size 5 (bvs (hexs (l.take k) ++ List.replicate (2 * n - 2 * k) 0)) ∧ Below w.heap.size w wr ∧ w.heap.size < wr.heap.size) (fun _ i _ => n - (intOf i).toNat)
    case atStart => exact ⟨0, by omega, by go_num, by first | rfl | simp, hb0, hw1, by omega⟩
    case round =>
      obtain ⟨k, hk, rfl, rfl, hb, hw, hz⟩ := hrel; obtain ⟨wq, rfl⟩ : ∃ wq : World, wq = wr := ⟨_, rfl⟩; by_cases hlt : k < n
      · have hkl : k < l.length := by rw [HL.out]; exact hlt
        obtain ⟨ad, rfl, hcc⟩ := hr (by rw [xae, HL.out]; omega)
        have hc : wq.cell? (ad.add k) = some (.int .u8 ((l[k]).toNat : Int)) := by
          have h1 := hcc k _ (by rw [xd2, List.getElem?_eq_getElem hkl]; rfl); exact (hw.cell (World.block_lt_of_cell? w _ h1)).trans h1
        have hs := hZ (xr7 l k hkl); have hx8 : (l[k]).toNat < 256 := UInt8.toNat_lt _; generalize (l[k]).toNat = x at *; have hand := and15 x hx8; have hhl : Hid ((hexs (l.take k)).length = 2 * k) := by show _ = _; rw [xim]; simp; omega
        generalize hexs (l.take k) = hk0 at *; obtain ⟨q, hq⟩ : ∃ q, q = x / 16 := ⟨_, rfl⟩; obtain ⟨r, hrr⟩ : ∃ r, r = x % 16 := ⟨_, rfl⟩; have hq16 : q < 16 := by omega
        have hr16 : r < 16 := by omega
        have hdq : (x : Int) / 16 = (q : Int) := by omega
        rw [← hrr] at hand hs; rw [← hq] at hs; clear hq hrr; have hdl : digL.length = 16 := rfl; go_wp2_with fail; refine rB (Below w.heap.size w) [] [7, 8] [0, 1, 2, 3, 4, 5, 6, 7, 8, 9] 0 ?_; refine X3 ?_; have hS : (Below w.heap.size w) _ := hw.drew; refine X7 ?_; refine X6 ?_; refine xab rfl rfl hS (fun W hW => xef Tryz.underlying9 (.const (.string ⟨digL.toArray⟩)) (.tmp 21) rfl digL rfl .u8 q rfl (by rw [hdl]; exact hq16)) ?_; refine X5 ?_; refine X7 ?_; refine xab rfl rfl hS (fun W hW => xef Tryz.underlying9 (.const (.string ⟨digL.toArray⟩)) (.tmp 24) rfl digL rfl .u8 r rfl (by rw [hdl]; exact hr16)) ?_; refine X5 ?_; refine xc7 rfl rfl ?_; intro K hK; go_simp; rw [dig_at q hq16, dig_at r hr16]; have hS1 : Below w.heap.size w (wq.drew.alloc (.cells #[.int .u8 ((dig q).toNat : Int), .int .u8 ((dig r).toNat : Int)] 5)) := hS.alloc hS.size _
        refine hK _ _ (fun _ => hS1) ?_; clear hK; refine Xe ?_; intro K hK; have hb1 : Blk (wq.drew.alloc (.cells #[.int .u8 ((dig q).toNat : Int), .int .u8 ((dig r).toNat : Int)] 5)) w.heap.size 5 (bvs (hk0 ++ List.replicate (2 * n - 2 * k) 0)) := hb.drew.alloc _; have hy : Rd (wq.drew.alloc (.cells #[.int .u8 ((dig q).toNat : Int), .int .u8 ((dig r).toNat : Int)] 5)) (some ⟨wq.heap.size, 0, none⟩) (bvs [dig q, dig r]) := Rd.of_blk0 (es := []) (by simpa [bvs, bv] using Blk.new wq.drew 5 [.int .u8 ((dig q).toNat : Int), .int .u8 ((dig r).toNat : Int)]); refine xju bt (.tmp 19) (.tmp 26) rfl w.heap.size hk0 (List.replicate (2 * n - 2 * k) 0) (2 * k) (2 * n) hhl.out (by rw [hhl.out]; simp; omega) rfl hb1 (some ⟨wq.heap.size, 0, none⟩) 2 2 [dig q, dig r] rfl rfl hy (by omega) (by simp; omega) (by unfold maxLen; omega) ?_; intro w2 hb2 hg2 hs2
        have hS2 : Below w.heap.size w w2 := hS1.grown hg2 hS1.size (by intro k hk; cases hk; exact Nat.le_refl _); refine hK _ _ (fun _ => hS2) ?_; clear hK; refine Xi ?_; refine Xm ?_; have hdr : List.drop 2 (List.replicate (2 * n - 2 * k) (0 : UInt8)) = List.replicate (2 * n - 2 * (k + 1)) 0 := by rw [List.drop_replicate]; congr 1 <;> omega
        rw [hdr, ← hs.out] at hb2; clear hdr hb1 hy hg2 hs2; go_wp2_with fail; go_roundw
        case rel => exact ⟨k + 1, by omega, by go_num, by congr 1, hb2, hS2, hb2.lt⟩
        case measure => simp only [intOf]; omega
      · obtain rfl : k = n := by omega
        have htl : l.take k = l := List.take_of_length_le (by rw [HL.out]; exact Nat.le_refl _); rw [htl] at hb; have hlen : Hid ((hexs l).length = 2 * k) := by show _ = _; rw [xim, HL.out]
        have hrd : Rd wq (some ⟨w.heap.size, 0, none⟩) (bvs (hexs l)) := by rw [xb2] at hb; exact Rd.of_blk0 hb
        clear htl hb hb0; go_wp2_with ((with_reducible refine xat 30 ?_); refine xc0 bt rfl (.tmp 29) rfl (some ⟨w.heap.size, 0, none⟩) (2 * k) (2 * k) rfl (hexs l) hrd hlen.out ?_); go_ret; exact ⟨rfl, hw⟩
theorem xjv (U : Nat) (h : U ≤ 65535) (w : World) : Calls Tryz.prog 101 #[.int .i64 (U : Int)] w fun e w' => ∃ v, e = .returned (.tuple #[v, .int .i64 0]) ∧ OwnB w' w.heap.size 5 v (be 2 U) ∧ Below w.heap.size w w' := by
  have := put16 (U : Int) w (by omega); have e1 : putE 65535 (U : Int) = 0 := by unfold putE; rw [if_pos (by omega)]
  have e2 : putL 2 65535 (U : Int) = be 2 U := by unfold putL; rw [if_pos (by omega), Int.toNat_natCast]
  rwa [e1, e2] at this
theorem put32_ok (U : Nat) (h : U ≤ 4294967295) (w : World) : Calls Tryz.prog 77 #[.int .i64 (U : Int)] w fun e w' => ∃ v, e = .returned (.tuple #[v, .int .i64 0]) ∧ OwnB w' w.heap.size 5 v (be 4 U) ∧ Below w.heap.size w w' := by
  have := put32 (U : Int) w (by omega); have e1 : putE 4294967295 (U : Int) = 0 := by unfold putE; rw [if_pos (by omega)]
  have e2 : putL 4 4294967295 (U : Int) = be 4 U := by unfold putL; rw [if_pos (by omega), Int.toNat_natCast]
  rwa [e1, e2] at this
end Go.Proofs.YtkjjdgnkelchfaaGreat
