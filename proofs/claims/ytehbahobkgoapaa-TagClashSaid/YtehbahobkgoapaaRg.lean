/- A region that draws its order, gone through in the order of its text: what yields its value in every world that meets S is taken first; a call comes up alone; the operations that F marks need not keep S, and whatever is taken first is taken ahead of them. -/
import Derived.Test.YtehbahobkgoapaaMem
import Derived.OrdersHeld
import Derived.KernelRfl
namespace Go.Proofs.Ytehbahobkgoapaa
open Go Go.RowKit

section
variable {P : Program} {ops : Array Oper} {Q : Exit → Act → World → Prop} {S S' : World → Prop} {F : Nat → Bool}

/-- Whatever order is picked from here on; behind every operation that F does not mark S holds. -/
def wpF (P : Program) (ops : Array Oper) (Q : Exit → Act → World → Prop) (S : World → Prop) (F : Nat → Bool) : Nat → Array Bool → Act → World → Prop
  | 0, listed, a, w => Region.ready .any ops listed = [] ∧ Q .normal a w
  | fuel + 1, listed, a, w =>
    (Region.ready .any ops listed = [] → Q .normal a w) ∧
    ∀ i ∈ Region.ready .any ops listed, wpOp P ops Q i (fun a' w' => (F i = false → S w') ∧ wpF P ops Q S F fuel (listed.setIfInBounds i true) a' w') a w

theorem wpAny_of_F : ∀ (fuel : Nat) (listed : Array Bool) (a : Act) (w : World), wpF P ops Q S F fuel listed a w → wpAny P .any ops Q fuel listed a w
  | 0, _, _, _, h => h
  | fuel + 1, _, _, _, h => ⟨h.1, fun i hi => wpOp_mono (fun a' w' h' => wpAny_of_F fuel _ a' w' h'.2) (h.2 i hi)⟩

theorem wpF_mono (hS : ∀ w, S' w → S w) : ∀ (fuel : Nat) (listed : Array Bool) (a : Act) (w : World), wpF P ops Q S' F fuel listed a w → wpF P ops Q S F fuel listed a w
  | 0, _, _, _, h => h
  | fuel + 1, _, _, _, h => ⟨h.1, fun i hi => wpOp_mono (fun a' w' h' => ⟨fun hF => hS _ (h'.1 hF), wpF_mono hS fuel _ a' w' h'.2⟩) (h.2 i hi)⟩

theorem wpF_first {i : Nat} {oi : Oper} {v : Value} (hi : ops[i]? = some oi) (hsel : ∀ (j : Nat) (o : Oper) cs b, ops[j]? = some o → o.op ≠ .select cs b)
    (hQ : ∀ c a w, Q (.panic c) (a.put oi.dst v) w → Q (.panic c) a w) :
    ∀ (fuel : Nat) (listed : Array Bool) (a : Act) (w : World),
      (∀ j oj, ops[j]? = some oj → j ≠ i → listed.getD j true = false → (∀ e ∈ oj.after, Region.binds .any e = true → e.on ≠ i) → oi.apart ops oj = true ∧ F j = false) →
      i ∈ Region.ready .any ops listed → YieldsIf P ops S oi v a → S w →
      wpF P ops Q S F fuel (listed.setIfInBounds i true) (a.put oi.dst v) w → wpF P ops Q S F (fuel + 1) listed a w
  | fuel, listed, a, w, hfree, hr, hy, hS, H => by
    refine ⟨fun h => (by rw [h] at hr; cases hr), fun j hj => ?_⟩
    by_cases hji : j = i
    · subst hji; exact hy.wpOp hi hS ⟨fun _ => hS, H⟩
    · cases fuel with
      | zero =>
        have := ready_mono hj hji
        rw [H.1] at this
        cases this
      | succ fuel =>
        have h1 := H.2 j (ready_mono hj hji)
        obtain ⟨hjun, oj, hoj, hall⟩ := mem_ready.1 hj
        have hnot : ∀ e ∈ oj.after, Region.binds .any e = true → e.on ≠ i := fun e he hb heq => by
          have h1 := hall e he hb
          have h0 := (mem_ready.1 hr).1
          rw [heq] at h1
          rcases Nat.lt_or_ge i listed.size with h' | h'
          · simp [h'] at h0 h1; rw [h0] at h1; cases h1
          · simp [Array.getElem?_eq_none h'] at h1
        obtain ⟨hap, hFj⟩ := hfree j oj hoj hji hjun hnot
        have h2 := wpOp_putIf hoj hap (fun cs b => hsel i oi cs b hi) (fun cs b => hsel j oj cs b hoj) hQ hy h1
        have hfree' : ∀ k ok, ops[k]? = some ok → k ≠ i → (listed.setIfInBounds j true).getD k true = false →
            (∀ e ∈ ok.after, Region.binds .any e = true → e.on ≠ i) → oi.apart ops ok = true ∧ F k = false := fun k ok hk hki hun hno => by
          refine hfree k ok hk hki ?_ hno
          by_cases hjk : j = k
          · subst hjk; exact hjun
          · rw [getD_set_ne true hjk] at hun; exact hun
        refine wpOp_mono (fun a' w' h3 => ⟨h3.2.1, wpF_first hi hsel hQ fuel (listed.setIfInBounds j true) a' w' hfree' (ready_mono hr (Ne.symm hji)) h3.1 (h3.2.1 hFj) ?_⟩) h2
        rw [Array.setIfInBounds_comm _ _ hji]
        exact h3.2.2

/-- Number i may be taken first. -/
def freeF (ops : Array Oper) (F : Nat → Bool) (listed : Array Bool) (i : Nat) : Bool :=
  match ops[i]? with
  | none => false
  | some oi => (Region.ready .any ops listed).contains i && Region.noSelect ops && (List.range ops.size).all fun j => j == i || listed.getD j true || match ops[j]? with
      | some oj => oj.after.any (fun e => Region.binds .any e && e.on == i) || (oi.apart ops oj && !F j)
      | none => true

theorem freeF_spec {i : Nat} {oi : Oper} {listed : Array Bool} (hi : ops[i]? = some oi) (h : freeF ops F listed i = true) :
    i ∈ Region.ready .any ops listed ∧ Region.noSelect ops = true ∧ ∀ (j : Nat) (oj : Oper), ops[j]? = some oj → j ≠ i → listed.getD j true = false →
      (∀ e ∈ oj.after, Region.binds .any e = true → e.on ≠ i) → oi.apart ops oj = true ∧ F j = false := by
  simp only [freeF, hi, Bool.and_eq_true, List.all_eq_true, List.mem_range] at h
  refine ⟨by simpa using h.1.1, h.1.2, fun j oj hj hne hun hno => ?_⟩
  have h1 := h.2 j (Array.getElem?_eq_some_iff.1 hj).1
  simp only [hj, Bool.or_eq_true, beq_iff_eq, hne, false_or, hun, Bool.false_eq_true, Bool.and_eq_true, Bool.not_eq_true'] at h1
  rcases h1 with h1 | h1
  · obtain ⟨e, he, hb⟩ := Array.any_eq_true'.1 h1
    simp only [Bool.and_eq_true, beq_iff_eq] at hb
    exact absurd hb.2 (hno e he hb.1)
  · exact h1

/-- Those named have come up. -/
def listed (n : Nat) : List Nat → Array Bool
  | [] => Array.replicate n false
  | i :: dn => (listed n dn).setIfInBounds i true

/-- The order holds: the next one comes up alone where pl names it, else it may be taken first. -/
def planned (ops : Array Oper) (F pl : List Nat) : List Nat → List Nat → Bool
  | _, [] => true
  | dn, i :: ord => (if pl.contains i then Region.ready .any ops (listed ops.size dn) == [i] else freeF ops (F.contains ·) (listed ops.size dn) i) && planned ops F pl (i :: dn) ord

/-- From here on, in the order that stands in rest; g operations more come behind it. -/
def wpT (P : Program) (ops : Array Oper) (Q : Exit → Act → World → Prop) (S : World → Prop) (F pl : List Nat) (g : Nat) (dn : List Nat) (rest : List (Nat × Oper)) (a : Act) (w : World) : Prop :=
  (∀ x ∈ rest, ops[x.1]? = some x.2) → planned ops F pl dn (rest.map (·.1)) = true → (∀ c (a a' : Act) w, a'.defers = a.defers → Q (.panic c) a' w → Q (.panic c) a w) →
    wpF P ops Q S (F.contains ·) (rest.length + g) (listed ops.size dn) a w

def pick (l : List Oper) (ord : List Nat) : List (Nat × Oper) := ord.map fun i => (i, l.getD i default)
theorem pick_ids (l : List Oper) (ord : List Nat) : (pick l ord).map (·.1) = ord := by simp [pick, Function.comp_def]
theorem pick_ok {l : List Oper} {ord : List Nat} (h : ord.all (· < l.length) = true) : ∀ x ∈ pick l ord, l.toArray[x.1]? = some x.2 := fun x hx => by
  obtain ⟨i, hi, rfl⟩ := List.mem_map.1 hx
  have hlt : i < l.length := by simpa using List.all_eq_true.1 h i hi
  simp [hlt]

theorem put_defs (a : Act) (d : Option Tmp) (v : Value) : (a.put d v).defers = a.defers := by cases d <;> rfl

section
variable {F pl : List Nat} {g : Nat}

/-- THE BEGINNING. -/
theorem rg_begin (S : World → Prop) (F pl ord : List Nat) (g : Nat) {l : List Oper} {id : Nat} {a : Act} {w : World} (hm : P.follows .mixedOrders = true)
    (hp : (planned l.toArray F pl [] ord && ord.length + g == l.length && ord.all (· < l.length)) = true) (hQ : ∀ c (a a' : Act) w, a'.defers = a.defers → Q (.panic c) a' w → Q (.panic c) a w)
    (h : wpT P l.toArray Q S F pl g [] (pick l ord) a w.drew) : (Code.region id l.toArray true).wp P Q a w := by
  simp only [Bool.and_eq_true, beq_iff_eq] at hp
  obtain ⟨⟨h1, h2⟩, h3⟩ := hp
  have h4 := h (pick_ok h3) (by rw [pick_ids]; exact h1) hQ
  have e : (pick l ord).length + g = l.toArray.size := by simp [pick, h2]
  rw [e] at h4
  exact wp_region_any hm (wpAny_of_F _ _ _ _ h4)

/-- TAKE the next one. -/
theorem rg_take {i : Nat} {dn : List Nat} {o : Oper} {rest : List (Nat × Oper)} {v : Value} {a : Act} {w : World} (hk : pl.contains i = false) (hw : Region.wanted o (yielded ops a.tmps) = true)
    (hS : S w) (hy : ∀ w, S w → (execOp a.eval o).run P w = .ok (.value v) w)
    (h : wpT P ops Q S F pl g (i :: dn) rest (a.put o.dst v) w) : wpT P ops Q S F pl g dn ((i, o) :: rest) a w := by
  intro hr hp hQ
  have hi := hr (i, o) (by simp)
  simp only [List.map_cons, planned, Bool.and_eq_true, hk, Bool.false_eq_true, if_false] at hp
  have h1 := h (fun x hx => hr x (by simp [hx])) hp.2 hQ
  obtain ⟨g1, g2, g3⟩ := freeF_spec hi hp.1
  rw [show ((i, o) :: rest).length + g = (rest.length + g) + 1 by simp; omega]
  exact wpF_first hi (Region.noSelect_spec g2) (fun c a w hh => hQ c a _ w (put_defs _ _ _) hh) _ _ a w g3 g1 (.inl ⟨hw, hy⟩) hS h1

/-- SKIP the next one: its guard says no. -/
theorem rg_skip {i : Nat} {dn : List Nat} {o : Oper} {rest : List (Nat × Oper)} {a : Act} {w : World} (hk : pl.contains i = false) (hw : Region.wanted o (yielded ops a.tmps) = false)
    (hS : S w) (h : wpT P ops Q S F pl g (i :: dn) rest (a.put o.dst undef) w) : wpT P ops Q S F pl g dn ((i, o) :: rest) a w := by
  intro hr hp hQ
  have hi := hr (i, o) (by simp)
  simp only [List.map_cons, planned, Bool.and_eq_true, hk, Bool.false_eq_true, if_false] at hp
  have h1 := h (fun x hx => hr x (by simp [hx])) hp.2 hQ
  obtain ⟨g1, g2, g3⟩ := freeF_spec hi hp.1
  rw [show ((i, o) :: rest).length + g = (rest.length + g) + 1 by simp; omega]
  exact wpF_first hi (Region.noSelect_spec g2) (fun c a w hh => hQ c a _ w (put_defs _ _ _) hh) _ _ a w g3 g1 (.inr ⟨hw, rfl⟩) hS h1

/-- The next one comes up alone. -/
theorem rg_one {i : Nat} {dn : List Nat} {o : Oper} {rest : List (Nat × Oper)} {a : Act} {w : World} (hk : pl.contains i = true) (hw : Region.wanted o (yielded ops a.tmps) = true)
    (h : ∀ K : Act → World → Prop, (∀ a' w', (F.contains i = false → S w') → wpT P ops Q S F pl g (i :: dn) rest a' w' → K a' w') → o.wp P a w K Q) : wpT P ops Q S F pl g dn ((i, o) :: rest) a w := by
  intro hr hp hQ
  have hi := hr (i, o) (by simp)
  simp only [List.map_cons, planned, Bool.and_eq_true, hk, if_true, beq_iff_eq] at hp
  rw [show ((i, o) :: rest).length + g = (rest.length + g) + 1 by simp; omega]
  refine ⟨fun h0 => (by rw [hp.1] at h0; cases h0), fun j hj => ?_⟩
  rw [hp.1] at hj
  obtain rfl : j = i := by simpa using hj
  unfold wpOp
  simp only [hi, hw, if_true]
  exact .inl (h _ fun a' w' h1 h2 => ⟨h1, h2 (fun x hx => hr x (by simp [hx])) hp.2 hQ⟩)

/-- The next one would come up alone: its guard says no. -/
theorem rg_pass {i : Nat} {dn : List Nat} {o : Oper} {rest : List (Nat × Oper)} {a : Act} {w : World} (hk : pl.contains i = true) (hw : Region.wanted o (yielded ops a.tmps) = false)
    (hS : S w) (h : wpT P ops Q S F pl g (i :: dn) rest (a.put o.dst undef) w) : wpT P ops Q S F pl g dn ((i, o) :: rest) a w := by
  intro hr hp hQ
  have hi := hr (i, o) (by simp)
  simp only [List.map_cons, planned, Bool.and_eq_true, hk, if_true, beq_iff_eq] at hp
  rw [show ((i, o) :: rest).length + g = (rest.length + g) + 1 by simp; omega]
  refine ⟨fun h0 => (by rw [hp.1] at h0; cases h0), fun j hj => ?_⟩
  rw [hp.1] at hj
  obtain rfl : j = i := by simpa using hj
  unfold wpOp
  simp only [hi, hw, Bool.false_eq_true, if_false]
  exact ⟨fun _ => hS, h (fun x hx => hr x (by simp [hx])) hp.2 hQ⟩

/-- All have come up. -/
theorem rg_done {dn : List Nat} {a : Act} {w : World} (hp : (Region.ready .any ops (listed ops.size dn) == []) = true) (h : Q .normal a w) : wpT P ops Q S F pl 0 dn [] a w := by
  intro _ _ _
  exact ⟨by simpa using hp, h⟩

/-- The order goes on. -/
theorem rg_more (ord : List Nat) (g' : Nat) {l : List Oper} {dn : List Nat} {a : Act} {w : World} (hp : (planned l.toArray F pl dn ord && ord.length + g' == g && ord.all (· < l.length)) = true)
    (h : wpT P l.toArray Q S F pl g' dn (pick l ord) a w) : wpT P l.toArray Q S F pl g dn [] a w := by
  intro _ _ hQ
  simp only [Bool.and_eq_true, beq_iff_eq] at hp
  obtain ⟨⟨h1, h2⟩, h3⟩ := hp
  have h4 := h (pick_ok h3) (by rw [pick_ids]; exact h1) hQ
  rw [show (pick l ord).length = ord.length by simp [pick]] at h4
  simpa [h2] using h4

/-- Each of these comes up next. -/
def wpB (P : Program) (ops : Array Oper) (Q : Exit → Act → World → Prop) (S : World → Prop) (F pl : List Nat) (g : Nat) (dn : List Nat) (a : Act) (w : World) : List (Nat × Oper) → Prop
  | [] => True
  | (i, o) :: r => (Region.wanted o (yielded ops a.tmps) = true ∧ ∀ K : Act → World → Prop, (∀ a' w', (F.contains i = false → S w') → wpT P ops Q S F pl g (i :: dn) [] a' w' → K a' w') → o.wp P a w K Q) ∧ wpB P ops Q S F pl g dn a w r

theorem wpB_at {dn : List Nat} {a : Act} {w : World} : ∀ {r : List (Nat × Oper)}, wpB P ops Q S F pl g dn a w r → ∀ x ∈ r, Region.wanted x.2 (yielded ops a.tmps) = true ∧
    ∀ K : Act → World → Prop, (∀ a' w', (F.contains x.1 = false → S w') → wpT P ops Q S F pl g (x.1 :: dn) [] a' w' → K a' w') → x.2.wp P a w K Q
  | [], _, x, hx => by simp at hx
  | (i, o) :: r, h, x, hx => by
    rcases List.mem_cons.1 hx with rfl | hx
    · exact h.1
    · exact wpB_at h.2 x hx

/-- SEVERAL may come up next. -/
theorem rg_fork (ids : List Nat) {l : List Oper} {dn : List Nat} {a : Act} {w : World} (hp : (Region.ready .any l.toArray (listed l.toArray.size dn) == ids && !ids.isEmpty && ids.all (· < l.length)) = true)
    (h : wpB P l.toArray Q S F pl g dn a w (pick l ids)) : wpT P l.toArray Q S F pl (g + 1) dn [] a w := by
  intro _ _ hQ
  simp only [Bool.and_eq_true, beq_iff_eq] at hp
  obtain ⟨⟨h1, h2⟩, h3⟩ := hp
  rw [show ([] : List (Nat × Oper)).length + (g + 1) = g + 1 by simp]
  refine ⟨fun h0 => (by rw [h1] at h0; subst h0; simp at h2), fun j hj => ?_⟩
  rw [h1] at hj
  have hx : (j, l.getD j default) ∈ pick l ids := List.mem_map.2 ⟨j, hj, rfl⟩
  obtain ⟨hw, hh⟩ := wpB_at h _ hx
  have hi := pick_ok h3 _ hx
  unfold wpOp
  simp only at hw hi hh
  simp only [hi, hw, if_true]
  exact .inl (hh _ fun a' w' g1 g2 => ⟨g1, (by have h5 := g2 (fun x hx => by simp at hx) rfl hQ; simp only [List.length_nil, Nat.zero_add] at h5; exact h5)⟩)

/-- S is strengthened. -/
theorem rg_into (S' : World → Prop) {dn : List Nat} {rest : List (Nat × Oper)} {a : Act} {w : World} (hS : ∀ w, S' w → S w) (h : wpT P ops Q S' F pl g dn rest a w) : wpT P ops Q S F pl g dn rest a w :=
  fun h1 h2 h3 => wpF_mono hS _ _ _ _ (h h1 h2 h3)
end
end
end Go.Proofs.Ytehbahobkgoapaa
