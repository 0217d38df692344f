/-
  No cell of these rows narrows 'for every input' (looked for: loops, veiled, ifaces, maps, wideKeys, modest, calm, conditions, laid).
  DERIVED. THE GIVEN ROWS OF THIS SEAT. 3 by the template 'for every input the law returns true; each argument reads behind the call as it read before'; 0 by the template 'total and deterministic' (their statements: YtkjjdgnkelchfaaGreatTotals.lean).
  GIVEN WITH THE SEED: the statements are not yours to turn. If you find one false, say at which input.
  Laid BY PROGRAM, IN A SANDBOX (cutbox-rows.mjs): the forced cells as the released guide's own fill.sh prints them over the translation da895866b2e61ac9… (all of the seat's roots in one cut). By AI agents, Wed Nov 11 2026. No macro, syntax, notation, axiom, sorry.
-/
import Derived.Test.YtkjjdgnkelchfaaGreatChecked
import GoSem.Claim
import GoSem.ClaimJoined
import GoSem.ClaimMapViews
import Derived.JoinedTies
import Derived.KernelRfl
namespace Go.Proofs.YtkjjdgnkelchfaaGreat
/- THE CELL 'sum', in the pinned program and in every row, IS THE sha256 OF THE DUMP (.gsa) THAT YtkjjdgnkelchfaaGreatProg.lean LOADS. Nothing in Lean hashes anything: it is a label: what it is worth is what the hold of that sum in a sandbox is worth. -/
noncomputable def Tryz.pinned : Pinned := { name := "ytkjjdgnkelchfaagreat", sum := "da895866b2e61ac92e0bd7f1c0a4c6c680d56472f88dbc1324188fd3cdbf3963", checked := Tryz.checked }
namespace Rows
def none {H : Type} : Left H := { results := [], args := [] }

/-- 'rootcellartop.TopTruths': WHATEVER THE INPUT: true; the input reads as it did. -/
def topTruthsSpec : ChangeSpec := { name := "topTruths", fn := fun _ => fun
  | [d1, d2, d3, d4, d5, d6, d7, d8, d9, d10] => { results := [.lit (.bool true)], args := [d1, d2, d3, d4, d5, d6, d7, d8, d9, d10] }
  | _ => none }
def topTruthsRow : OpenClaim := { program := "ytkjjdgnkelchfaagreat", sum := "da895866b2e61ac92e0bd7f1c0a4c6c680d56472f88dbc1324188fd3cdbf3963", func := "rootcellar/rootcellartop.TopTruths", spec := "topTruths", inPlace := ["internal/bytealg.abigen_runtime_cmpstring"], recurses := true, plainKeys := false, apart := false }
def TopTruthsSaid : Prop := topTruthsRow.holds Tryz.pinned (OpenSpec.ofChange topTruthsSpec)

/-- ITS FALSE NEIGHBOUR: 'it returns false'. Refute it at one input. -/
def topTruthsWrong : ChangeSpec := { name := "topTruths", fn := fun _ => fun
  | [d1, d2, d3, d4, d5, d6, d7, d8, d9, d10] => { results := [.lit (.bool false)], args := [d1, d2, d3, d4, d5, d6, d7, d8, d9, d10] }
  | _ => none }
def TopTruthsWrongFalsely : Prop := topTruthsRow.holds Tryz.pinned (OpenSpec.ofChange topTruthsWrong)

/-- 'rootcellartop.TopCrash': WHATEVER THE INPUT: true; the input reads as it did. -/
def topCrashSpec : ChangeSpec := { name := "topCrash", fn := fun _ => fun
  | [d1, d2, d3] => { results := [.lit (.bool true)], args := [d1, d2, d3] }
  | _ => none }
def topCrashRow : OpenClaim := { program := "ytkjjdgnkelchfaagreat", sum := "da895866b2e61ac92e0bd7f1c0a4c6c680d56472f88dbc1324188fd3cdbf3963", func := "rootcellar/rootcellartop.TopCrash", spec := "topCrash", inPlace := ["internal/bytealg.abigen_runtime_cmpstring"], unfollowed := true, recurses := true, plainKeys := false, apart := false }
def TopCrashSaid : Prop := topCrashRow.holds Tryz.pinned (OpenSpec.ofChange topCrashSpec)

/-- ITS FALSE NEIGHBOUR: 'it returns false'. Refute it at one input. -/
def topCrashWrong : ChangeSpec := { name := "topCrash", fn := fun _ => fun
  | [d1, d2, d3] => { results := [.lit (.bool false)], args := [d1, d2, d3] }
  | _ => none }
def TopCrashWrongFalsely : Prop := topCrashRow.holds Tryz.pinned (OpenSpec.ofChange topCrashWrong)

/-- 'rootcellartop.TopNext': WHATEVER THE INPUT: true; the input reads as it did. -/
def topNextSpec : ChangeSpec := { name := "topNext", fn := fun _ => fun
  | [d1, d2, d3, d4] => { results := [.lit (.bool true)], args := [d1, d2, d3, d4] }
  | _ => none }
def topNextRow : OpenClaim := { program := "ytkjjdgnkelchfaagreat", sum := "da895866b2e61ac92e0bd7f1c0a4c6c680d56472f88dbc1324188fd3cdbf3963", func := "rootcellar/rootcellartop.TopNext", spec := "topNext", inPlace := ["internal/bytealg.abigen_runtime_cmpstring"], unfollowed := true, recurses := true, plainKeys := false, apart := false }
def TopNextSaid : Prop := topNextRow.holds Tryz.pinned (OpenSpec.ofChange topNextSpec)

/-- ITS FALSE NEIGHBOUR: 'it returns false'. Refute it at one input. -/
def topNextWrong : ChangeSpec := { name := "topNext", fn := fun _ => fun
  | [d1, d2, d3, d4] => { results := [.lit (.bool false)], args := [d1, d2, d3, d4] }
  | _ => none }
def TopNextWrongFalsely : Prop := topNextRow.holds Tryz.pinned (OpenSpec.ofChange topNextWrong)

/- THE SECOND FORM. 'bulk': how many values and letters a reading holds, each counted each time it is reached (what is shared counts as often as it is met; a slice's spare places count too). A statement '..UptoSaid' is the law's where the arguments, and the package variables that the reading takes, are together of bulk at most 1048576: NARROWER than '..Said'. Prove '..Said' where nothing that the law and all that it calls make is longer than what came in: it says more and counts as full. Else prove '..UptoSaid'. A law counts once. -/
mutual
def uptoBulk {H : Type} : DataW H → Nat
  | .lit (.string bytes) => bytes.length + 1
  | .lit _ => 1
  | .nil => 1
  | .ptr d => uptoBulk d + 1
  | .slice elems spare => uptoBulkAll elems + uptoBulkAll spare + 1
  | .agg parts => uptoBulkAll parts + 1
  | .iface _ d => uptoBulk d + 1
  | .map entries => uptoBulkEntries entries + 1
  | .held _ => 1
def uptoBulkAll {H : Type} : List (DataW H) → Nat
  | [] => 0
  | d :: r => uptoBulk d + uptoBulkAll r
def uptoBulkEntries {H : Type} : List (Lit × DataW H) → Nat
  | [] => 0
  | x :: r => uptoBulkEntry x + uptoBulkEntries r
def uptoBulkEntry {H : Type} : Lit × DataW H → Nat
  | (.string bytes, d) => bytes.length + uptoBulk d + 1
  | (_, d) => uptoBulk d + 1
 end
def uptoSmall : (H : Type) → List (DataW H) → Bool := fun _ ds => decide (uptoBulkAll ds ≤ 1048576)
def OpenSpec.upto (s : _root_.Go.ChangeSpec) : _root_.Go.OpenSpec := { _root_.Go.OpenSpec.ofChange s with cond := some uptoSmall }

/-- 'rootcellartop.TopTruths', WHERE WHAT IT READS IS OF BULK AT MOST 1048576: true; the input reads as it did. -/
def topTruthsUptoRow : OpenClaim := { program := "ytkjjdgnkelchfaagreat", sum := "da895866b2e61ac92e0bd7f1c0a4c6c680d56472f88dbc1324188fd3cdbf3963", func := "rootcellar/rootcellartop.TopTruths", spec := "topTruths", inPlace := ["internal/bytealg.abigen_runtime_cmpstring"], recurses := true, plainKeys := false, apart := false, narrowed := true }
def TopTruthsUptoSaid : Prop := topTruthsUptoRow.holds Tryz.pinned (OpenSpec.upto topTruthsSpec)

/-- 'rootcellartop.TopCrash', WHERE WHAT IT READS IS OF BULK AT MOST 1048576: true; the input reads as it did. -/
def topCrashUptoRow : OpenClaim := { program := "ytkjjdgnkelchfaagreat", sum := "da895866b2e61ac92e0bd7f1c0a4c6c680d56472f88dbc1324188fd3cdbf3963", func := "rootcellar/rootcellartop.TopCrash", spec := "topCrash", inPlace := ["internal/bytealg.abigen_runtime_cmpstring"], unfollowed := true, recurses := true, plainKeys := false, apart := false, narrowed := true }
def TopCrashUptoSaid : Prop := topCrashUptoRow.holds Tryz.pinned (OpenSpec.upto topCrashSpec)

/-- 'rootcellartop.TopNext', WHERE WHAT IT READS IS OF BULK AT MOST 1048576: true; the input reads as it did. -/
def topNextUptoRow : OpenClaim := { program := "ytkjjdgnkelchfaagreat", sum := "da895866b2e61ac92e0bd7f1c0a4c6c680d56472f88dbc1324188fd3cdbf3963", func := "rootcellar/rootcellartop.TopNext", spec := "topNext", inPlace := ["internal/bytealg.abigen_runtime_cmpstring"], unfollowed := true, recurses := true, plainKeys := false, apart := false, narrowed := true }
def TopNextUptoSaid : Prop := topNextUptoRow.holds Tryz.pinned (OpenSpec.upto topNextSpec)

end Rows
end Go.Proofs.YtkjjdgnkelchfaaGreat
