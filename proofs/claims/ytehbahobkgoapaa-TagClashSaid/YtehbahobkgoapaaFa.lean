/- Closed facts on the program alone; the head's words by an explicit list of signs. -/
import Derived.Test.YtehbahobkgoapaaRows
import Derived.JoinedOf
import Derived.KernelRfl
namespace Go.Proofs.Ytehbahobkgoapaa
open Go
set_option maxRecDepth 100000

theorem words_step : ∀ (a r : List Char), (∀ c ∈ a, c ≠ Char.ofNat 32) → wordsSigns (a ++ Char.ofNat 32 :: r) = a :: wordsSigns r
  | [], r, _ => by rw [List.nil_append]; rfl
  | c :: a, r, h => by
    have ih := words_step a r (fun x hx => h x (by simp [hx]))
    have hc := h c (by simp)
    rw [List.cons_append]
    conv => lhs; unfold wordsSigns
    split
    · rename_i e; injection e
    · rename_i e
      injection e with e _
      exact absurd e hc
    · rename_i e
      injection e with e1 e2
      subst e1; subst e2
      rw [ih]
def signs (l : List Nat) : List Char := l.map Char.ofNat
def head1 : List Char := signs [104, 97, 114, 110, 101, 115, 115]
def head2 : List Char := signs [48, 55, 51, 57, 55, 98, 97, 53, 57, 99, 55, 53, 51, 97, 100, 49, 52, 49, 56, 48, 56, 53, 98, 55, 54, 55, 98, 52, 100, 97, 50, 99, 100, 101, 50, 57, 53, 57, 52, 50, 98, 50, 51, 57,
    101, 55, 100, 97, 55, 102, 48, 49, 99, 54, 52, 100, 56, 56, 55, 49, 52, 50, 102, 57]
def head3 : List Char := signs [99, 117, 116]
def headRest : List Char := signs [97, 116, 32, 114, 111, 111, 116, 99, 101, 108, 108, 97, 114, 47, 114, 111, 111, 116, 99, 101, 108, 108, 97, 114, 108, 97, 119, 48, 51, 46, 84, 97, 103, 84, 101, 120, 116, 115, 32,
    114, 111, 111, 116, 99, 101, 108, 108, 97, 114, 47, 114, 111, 111, 116, 99, 101, 108, 108, 97, 114, 108, 97, 119, 48, 49, 46, 79, 99, 116, 101, 116, 78, 117, 109, 98, 101, 114,
    115, 32, 114, 111, 111, 116, 99, 101, 108, 108, 97, 114, 47, 114, 111, 111, 116, 99, 101, 108, 108, 97, 114, 108, 97, 119, 48, 49, 46, 79, 99, 116, 101, 116, 82, 101, 97, 100, 101,
    114, 32, 114, 111, 111, 116, 99, 101, 108, 108, 97, 114, 47, 114, 111, 111, 116, 99, 101, 108, 108, 97, 114, 108, 97, 119, 48, 49, 46, 79, 99, 116, 101, 116, 78, 105, 108, 32, 114,
    111, 111, 116, 99, 101, 108, 108, 97, 114, 47, 114, 111, 111, 116, 99, 101, 108, 108, 97, 114, 108, 97, 119, 48, 52, 46, 80, 97, 116, 104, 79, 114, 100, 101, 114, 32, 114, 111,
    111, 116, 99, 101, 108, 108, 97, 114, 47, 114, 111, 111, 116, 99, 101, 108, 108, 97, 114, 108, 97, 119, 48, 49, 46, 79, 99, 116, 101, 116, 72, 101, 120, 32, 114, 111, 111, 116, 99,
    101, 108, 108, 97, 114, 47, 114, 111, 111, 116, 99, 101, 108, 108, 97, 114, 108, 97, 119, 48, 52, 46, 80, 97, 116, 104, 85, 110, 100, 101, 114, 32, 114, 111, 111, 116, 99, 101,
    108, 108, 97, 114, 47, 114, 111, 111, 116, 99, 101, 108, 108, 97, 114, 108, 97, 119, 48, 52, 46, 80, 97, 116, 104, 84, 101, 108, 108, 115, 32, 114, 111, 111, 116, 99, 101, 108,
    108, 97, 114, 47, 114, 111, 111, 116, 99, 101, 108, 108, 97, 114, 108, 97, 119, 48, 49, 46, 79, 99, 116, 101, 116, 66, 97, 99, 107, 32, 114, 111, 111, 116, 99, 101, 108, 108, 97,
    114, 47, 114, 111, 111, 116, 99, 101, 108, 108, 97, 114, 108, 97, 119, 48, 50, 46, 83, 104, 97, 83, 117, 109, 115, 32, 114, 111, 111, 116, 99, 101, 108, 108, 97, 114, 47, 114, 111,
    111, 116, 99, 101, 108, 108, 97, 114, 108, 97, 119, 48, 50, 46, 83, 104, 97, 83, 99, 114, 105, 112, 116, 32, 114, 111, 111, 116, 99, 101, 108, 108, 97, 114, 47, 114, 111, 111, 116,
    99, 101, 108, 108, 97, 114, 108, 97, 119, 48, 51, 46, 84, 97, 103, 84, 101, 108, 108, 115, 32, 114, 111, 111, 116, 99, 101, 108, 108, 97, 114, 47, 114, 111, 111, 116, 99, 101, 108,
    108, 97, 114, 108, 97, 119, 48, 51, 46, 84, 97, 103, 67, 108, 97, 115, 104, 32, 114, 111, 111, 116, 99, 101, 108, 108, 97, 114, 47, 114, 111, 111, 116, 99, 101, 108, 108, 97, 114,
    108, 97, 119, 48, 50, 46, 83, 104, 97, 80, 105, 101, 99, 101, 115, 32, 114, 111, 111, 116, 99, 101, 108, 108, 97, 114, 47, 114, 111, 111, 116, 99, 101, 108, 108, 97, 114, 108, 97,
    119, 48, 50, 46, 83, 104, 97, 78, 105, 108, 32, 114, 111, 111, 116, 99, 101, 108, 108, 97, 114, 47, 114, 111, 111, 116, 99, 101, 108, 108, 97, 114, 108, 97, 119, 48, 51, 46, 84,
    97, 103, 65, 112, 97, 114, 116, 32, 114, 111, 111, 116, 99, 101, 108, 108, 97, 114, 47, 114, 111, 111, 116, 99, 101, 108, 108, 97, 114, 108, 97, 119, 50, 53, 46, 67, 104, 97, 105,
    110, 70, 111, 108, 100, 115, 32, 114, 111, 111, 116, 99, 101, 108, 108, 97, 114, 47, 114, 111, 111, 116, 99, 101, 108, 108, 97, 114, 108, 97, 119, 50, 53, 46, 67, 104, 97, 105,
    110, 78, 111, 110, 101, 32, 114, 111, 111, 116, 99, 101, 108, 108, 97, 114, 47, 114, 111, 111, 116, 99, 101, 108, 108, 97, 114, 108, 97, 119, 50, 53, 46, 67, 104, 97, 105, 110, 83,
    97, 121, 115, 32, 114, 111, 111, 116, 99, 101, 108, 108, 97, 114, 47, 114, 111, 111, 116, 99, 101, 108, 108, 97, 114, 108, 97, 119, 50, 53, 46, 67, 104, 97, 105, 110, 83, 99, 114,
    105, 112, 116, 32, 114, 111, 111, 116, 99, 101, 108, 108, 97, 114, 47, 114, 111, 111, 116, 99, 101, 108, 108, 97, 114, 108, 97, 119, 50, 53, 46, 67, 104, 97, 105, 110, 80, 105,
    101, 99, 101, 115, 32, 114, 111, 111, 116, 99, 101, 108, 108, 97, 114, 47, 114, 111, 111, 116, 99, 101, 108, 108, 97, 114, 108, 97, 119, 50, 53, 46, 67, 104, 97, 105, 110, 75, 110,
    111, 119, 110]
theorem head_list : Try.prog.initOrder.toList = head1 ++ Char.ofNat 32 :: (head2 ++ Char.ofNat 32 :: (head3 ++ Char.ofNat 32 :: headRest)) := by
  have h : Try.prog.initOrder = String.ofList (head1 ++ Char.ofNat 32 :: (head2 ++ Char.ofNat 32 :: (head3 ++ Char.ofNat 32 :: headRest))) := by kernel_rfl
  rw [h, String.toList_ofList]
theorem no_space {l : List Char} (h : (l.all fun c => !(c == Char.ofNat 32)) = true) : ∀ c ∈ l, c ≠ Char.ofNat 32 := fun c hc e => by
  have := List.all_eq_true.1 h c hc
  simp [e] at this
theorem behind_mk (a b c : List Char) (r : List (List Char)) (h : ((a == "harness".toList || a == "ownmain".toList) && isSumSigns b) = true) : behindMainWord (a :: b :: c :: r) = c :: r := by
  unfold behindMainWord
  exact if_pos h
theorem head_words : behindMainWord (wordsSigns Try.prog.initOrder.toList) = head3 :: wordsSigns headRest := by
  rw [head_list, words_step _ _ (no_space (by kernel_rfl)), words_step _ _ (no_space (by kernel_rfl)), words_step _ _ (no_space (by kernel_rfl))]
  exact behind_mk _ _ _ _ (by kernel_rfl)
theorem enter_of (x : List (List Char)) (P : Program) (h : behindMainWord (wordsSigns P.initOrder.toList) = head3 :: x) (hl : P.laysLater = false) (hb : P.bearsReflect = false) (hd : P.doorFits [] = true) : P.mayEnter = true := by
  unfold Program.mayEnter
  rw [h]
  have hs : stripLifts liftWords (head3 :: x) = ([], head3 :: x) := by kernel_rfl
  simp [hs, hl, hb, hd]
  exact Or.inr (by kernel_rfl)
theorem lifts_of (x : List (List Char)) (P : Program) (h : behindMainWord (wordsSigns P.initOrder.toList) = head3 :: x) : P.liftsFinal = false := by
  unfold Program.liftsFinal Program.headLifts
  simp only [h]
  kernel_rfl
theorem make_of (x : List (List Char)) (P : Program) (h : behindMainWord (wordsSigns P.initOrder.toList) = head3 :: x) : P.make = some .cut := by
  unfold Program.make; rw [h]; kernel_rfl
theorem fa_laid : laidOutB Try.prog = true := by kernel_rfl
theorem fa_maps : mapsRowed Try.prog = true := by kernel_rfl
theorem fa_stops : (Try.prog.stops == []) = true := by kernel_rfl
theorem fa_knobs : (Try.prog.stopKnobs == []) = true := by kernel_rfl
theorem fa_keys : Try.prog.plainKeys = true := by kernel_rfl
theorem fa_heard : Try.prog.stopsHeard = true := by kernel_rfl
theorem fa_later : Try.prog.laysLater = false := by kernel_rfl
theorem fa_reflect : Try.prog.bearsReflect = false := by kernel_rfl
theorem fa_door : Try.prog.doorFits [] = true := by kernel_rfl
theorem fa_enter : Try.prog.mayEnter = true := enter_of _ _ head_words fa_later fa_reflect fa_door
theorem fa_lifts : Try.prog.liftsFinal = false := lifts_of _ _ head_words
theorem fa_make : Try.prog.make = some .cut := make_of _ _ head_words
end Go.Proofs.Ytehbahobkgoapaa
