/-
  No cell of these rows narrows 'for every input' (looked for: loops, veiled, ifaces, maps, wideKeys, modest, calm, conditions, laid).
  DERIVED. THE GIVEN ROWS OF THIS SEAT. 22 by the template 'for every input the law returns true; each argument reads behind the call as it read before'; 0 by the template 'total and deterministic' (their statements: YtehbahobkgoapaaTotals.lean).
  GIVEN WITH THE SEED: the statements are not yours to turn. If you find one false, say at which input.
  Laid BY PROGRAM, IN A SANDBOX (cutbox-rows.mjs): the forced cells as the released guide's own fill.sh prints them over the translation b9a0d4291eebd784… (all of the seat's roots in one cut). By AI agents, Wed Nov 11 2026. No macro, syntax, notation, axiom, sorry.
-/
import Derived.Test.YtehbahobkgoapaaChecked
import GoSem.Claim
import GoSem.ClaimJoined
import GoSem.ClaimMapViews
import Derived.JoinedTies
import Derived.KernelRfl
namespace Go.Proofs.Ytehbahobkgoapaa
/- THE CELL 'sum', in the pinned program and in every row, IS THE sha256 OF THE DUMP (.gsa) THAT YtehbahobkgoapaaProg.lean LOADS. Nothing in Lean hashes anything: it is a label: what it is worth is what the hold of that sum in a sandbox is worth. -/
noncomputable def Try.pinned : Pinned := { name := "ytehbahobkgoapaa", sum := "b9a0d4291eebd78427ee49435ce3bad92e0a50c95c0f5221d213047e06af6215", checked := Try.checked }
namespace Rows
def none {H : Type} : Left H := { results := [], args := [] }

/-- 'rootcellarlaw03.TagTexts': WHATEVER THE INPUT: true; the input reads as it did. -/
def tagTextsSpec : ChangeSpec := { name := "tagTexts", fn := fun _ => fun
  | [d1, d2, d3, d4] => { results := [.lit (.bool true)], args := [d1, d2, d3, d4] }
  | _ => none }
def tagTextsRow : OpenClaim := { program := "ytehbahobkgoapaa", sum := "b9a0d4291eebd78427ee49435ce3bad92e0a50c95c0f5221d213047e06af6215", func := "rootcellar/rootcellarlaw03.TagTexts", spec := "tagTexts", apart := false }
def TagTextsSaid : Prop := tagTextsRow.holds Try.pinned (OpenSpec.ofChange tagTextsSpec)

/-- ITS FALSE NEIGHBOUR: 'it returns false'. Refute it at one input. -/
def tagTextsWrong : ChangeSpec := { name := "tagTexts", fn := fun _ => fun
  | [d1, d2, d3, d4] => { results := [.lit (.bool false)], args := [d1, d2, d3, d4] }
  | _ => none }
def TagTextsWrongFalsely : Prop := tagTextsRow.holds Try.pinned (OpenSpec.ofChange tagTextsWrong)

/-- 'rootcellarlaw01.OctetNumbers': WHATEVER THE INPUT: true; the input reads as it did. -/
def octetNumbersSpec : ChangeSpec := { name := "octetNumbers", fn := fun _ => fun
  | [d1, d2, d3] => { results := [.lit (.bool true)], args := [d1, d2, d3] }
  | _ => none }
def octetNumbersRow : OpenClaim := { program := "ytehbahobkgoapaa", sum := "b9a0d4291eebd78427ee49435ce3bad92e0a50c95c0f5221d213047e06af6215", func := "rootcellar/rootcellarlaw01.OctetNumbers", spec := "octetNumbers", apart := false }
def OctetNumbersSaid : Prop := octetNumbersRow.holds Try.pinned (OpenSpec.ofChange octetNumbersSpec)

/-- ITS FALSE NEIGHBOUR: 'it returns false'. Refute it at one input. -/
def octetNumbersWrong : ChangeSpec := { name := "octetNumbers", fn := fun _ => fun
  | [d1, d2, d3] => { results := [.lit (.bool false)], args := [d1, d2, d3] }
  | _ => none }
def OctetNumbersWrongFalsely : Prop := octetNumbersRow.holds Try.pinned (OpenSpec.ofChange octetNumbersWrong)

/-- 'rootcellarlaw01.OctetReader': WHATEVER THE INPUT: true; the input reads as it did. -/
def octetReaderSpec : ChangeSpec := { name := "octetReader", fn := fun _ => fun
  | [d1, d2] => { results := [.lit (.bool true)], args := [d1, d2] }
  | _ => none }
def octetReaderRow : OpenClaim := { program := "ytehbahobkgoapaa", sum := "b9a0d4291eebd78427ee49435ce3bad92e0a50c95c0f5221d213047e06af6215", func := "rootcellar/rootcellarlaw01.OctetReader", spec := "octetReader", apart := false }
def OctetReaderSaid : Prop := octetReaderRow.holds Try.pinned (OpenSpec.ofChange octetReaderSpec)

/-- ITS FALSE NEIGHBOUR: 'it returns false'. Refute it at one input. -/
def octetReaderWrong : ChangeSpec := { name := "octetReader", fn := fun _ => fun
  | [d1, d2] => { results := [.lit (.bool false)], args := [d1, d2] }
  | _ => none }
def OctetReaderWrongFalsely : Prop := octetReaderRow.holds Try.pinned (OpenSpec.ofChange octetReaderWrong)

/-- 'rootcellarlaw01.OctetNil': WHATEVER THE INPUT: true; the input reads as it did. -/
def octetNilSpec : ChangeSpec := { name := "octetNil", fn := fun _ => fun
  | [d] => { results := [.lit (.bool true)], args := [d] }
  | _ => none }
def octetNilRow : OpenClaim := { program := "ytehbahobkgoapaa", sum := "b9a0d4291eebd78427ee49435ce3bad92e0a50c95c0f5221d213047e06af6215", func := "rootcellar/rootcellarlaw01.OctetNil", spec := "octetNil", apart := false }
def OctetNilSaid : Prop := octetNilRow.holds Try.pinned (OpenSpec.ofChange octetNilSpec)

/-- ITS FALSE NEIGHBOUR: 'it returns false'. Refute it at one input. -/
def octetNilWrong : ChangeSpec := { name := "octetNil", fn := fun _ => fun
  | [d] => { results := [.lit (.bool false)], args := [d] }
  | _ => none }
def OctetNilWrongFalsely : Prop := octetNilRow.holds Try.pinned (OpenSpec.ofChange octetNilWrong)

/-- 'rootcellarlaw04.PathOrder': WHATEVER THE INPUT: true; the input reads as it did. -/
def pathOrderSpec : ChangeSpec := { name := "pathOrder", fn := fun _ => fun
  | [d1, d2] => { results := [.lit (.bool true)], args := [d1, d2] }
  | _ => none }
def pathOrderRow : OpenClaim := { program := "ytehbahobkgoapaa", sum := "b9a0d4291eebd78427ee49435ce3bad92e0a50c95c0f5221d213047e06af6215", func := "rootcellar/rootcellarlaw04.PathOrder", spec := "pathOrder", inPlace := ["internal/bytealg.abigen_runtime_cmpstring"], apart := false }
def PathOrderSaid : Prop := pathOrderRow.holds Try.pinned (OpenSpec.ofChange pathOrderSpec)

/-- ITS FALSE NEIGHBOUR: 'it returns false'. Refute it at one input. -/
def pathOrderWrong : ChangeSpec := { name := "pathOrder", fn := fun _ => fun
  | [d1, d2] => { results := [.lit (.bool false)], args := [d1, d2] }
  | _ => none }
def PathOrderWrongFalsely : Prop := pathOrderRow.holds Try.pinned (OpenSpec.ofChange pathOrderWrong)

/-- 'rootcellarlaw01.OctetHex': WHATEVER THE INPUT: true; the input reads as it did. -/
def octetHexSpec : ChangeSpec := { name := "octetHex", fn := fun _ => fun
  | [d1, d2, d3] => { results := [.lit (.bool true)], args := [d1, d2, d3] }
  | _ => none }
def octetHexRow : OpenClaim := { program := "ytehbahobkgoapaa", sum := "b9a0d4291eebd78427ee49435ce3bad92e0a50c95c0f5221d213047e06af6215", func := "rootcellar/rootcellarlaw01.OctetHex", spec := "octetHex", inPlace := ["internal/bytealg.IndexByteString", "internal/bytealg.abigen_runtime_cmpstring"], apart := false }
def OctetHexSaid : Prop := octetHexRow.holds Try.pinned (OpenSpec.ofChange octetHexSpec)

/-- ITS FALSE NEIGHBOUR: 'it returns false'. Refute it at one input. -/
def octetHexWrong : ChangeSpec := { name := "octetHex", fn := fun _ => fun
  | [d1, d2, d3] => { results := [.lit (.bool false)], args := [d1, d2, d3] }
  | _ => none }
def OctetHexWrongFalsely : Prop := octetHexRow.holds Try.pinned (OpenSpec.ofChange octetHexWrong)

/-- 'rootcellarlaw04.PathUnder': WHATEVER THE INPUT: true; the input reads as it did. -/
def pathUnderSpec : ChangeSpec := { name := "pathUnder", fn := fun _ => fun
  | [d1, d2, d3] => { results := [.lit (.bool true)], args := [d1, d2, d3] }
  | _ => none }
def pathUnderRow : OpenClaim := { program := "ytehbahobkgoapaa", sum := "b9a0d4291eebd78427ee49435ce3bad92e0a50c95c0f5221d213047e06af6215", func := "rootcellar/rootcellarlaw04.PathUnder", spec := "pathUnder", inPlace := ["internal/bytealg.abigen_runtime_cmpstring"], apart := false }
def PathUnderSaid : Prop := pathUnderRow.holds Try.pinned (OpenSpec.ofChange pathUnderSpec)

/-- ITS FALSE NEIGHBOUR: 'it returns false'. Refute it at one input. -/
def pathUnderWrong : ChangeSpec := { name := "pathUnder", fn := fun _ => fun
  | [d1, d2, d3] => { results := [.lit (.bool false)], args := [d1, d2, d3] }
  | _ => none }
def PathUnderWrongFalsely : Prop := pathUnderRow.holds Try.pinned (OpenSpec.ofChange pathUnderWrong)

/-- 'rootcellarlaw04.PathTells': WHATEVER THE INPUT: true; the input reads as it did. -/
def pathTellsSpec : ChangeSpec := { name := "pathTells", fn := fun _ => fun
  | [d1, d2, d3, d4] => { results := [.lit (.bool true)], args := [d1, d2, d3, d4] }
  | _ => none }
def pathTellsRow : OpenClaim := { program := "ytehbahobkgoapaa", sum := "b9a0d4291eebd78427ee49435ce3bad92e0a50c95c0f5221d213047e06af6215", func := "rootcellar/rootcellarlaw04.PathTells", spec := "pathTells", inPlace := ["internal/bytealg.abigen_runtime_cmpstring"], apart := false }
def PathTellsSaid : Prop := pathTellsRow.holds Try.pinned (OpenSpec.ofChange pathTellsSpec)

/-- ITS FALSE NEIGHBOUR: 'it returns false'. Refute it at one input. -/
def pathTellsWrong : ChangeSpec := { name := "pathTells", fn := fun _ => fun
  | [d1, d2, d3, d4] => { results := [.lit (.bool false)], args := [d1, d2, d3, d4] }
  | _ => none }
def PathTellsWrongFalsely : Prop := pathTellsRow.holds Try.pinned (OpenSpec.ofChange pathTellsWrong)

/-- 'rootcellarlaw01.OctetBack': WHATEVER THE INPUT: true; the input reads as it did. -/
def octetBackSpec : ChangeSpec := { name := "octetBack", fn := fun _ => fun
  | [d1, d2, d3, d4, d5] => { results := [.lit (.bool true)], args := [d1, d2, d3, d4, d5] }
  | _ => none }
def octetBackRow : OpenClaim := { program := "ytehbahobkgoapaa", sum := "b9a0d4291eebd78427ee49435ce3bad92e0a50c95c0f5221d213047e06af6215", func := "rootcellar/rootcellarlaw01.OctetBack", spec := "octetBack", inPlace := ["internal/bytealg.IndexByteString"], apart := false }
def OctetBackSaid : Prop := octetBackRow.holds Try.pinned (OpenSpec.ofChange octetBackSpec)

/-- ITS FALSE NEIGHBOUR: 'it returns false'. Refute it at one input. -/
def octetBackWrong : ChangeSpec := { name := "octetBack", fn := fun _ => fun
  | [d1, d2, d3, d4, d5] => { results := [.lit (.bool false)], args := [d1, d2, d3, d4, d5] }
  | _ => none }
def OctetBackWrongFalsely : Prop := octetBackRow.holds Try.pinned (OpenSpec.ofChange octetBackWrong)

/-- 'rootcellarlaw02.ShaSums': WHATEVER THE INPUT: true; the input reads as it did. -/
def shaSumsSpec : ChangeSpec := { name := "shaSums", fn := fun _ => fun
  | [d1, d2, d3] => { results := [.lit (.bool true)], args := [d1, d2, d3] }
  | _ => none }
def shaSumsRow : OpenClaim := { program := "ytehbahobkgoapaa", sum := "b9a0d4291eebd78427ee49435ce3bad92e0a50c95c0f5221d213047e06af6215", func := "rootcellar/rootcellarlaw02.ShaSums", spec := "shaSums", apart := false }
def ShaSumsSaid : Prop := shaSumsRow.holds Try.pinned (OpenSpec.ofChange shaSumsSpec)

/-- ITS FALSE NEIGHBOUR: 'it returns false'. Refute it at one input. -/
def shaSumsWrong : ChangeSpec := { name := "shaSums", fn := fun _ => fun
  | [d1, d2, d3] => { results := [.lit (.bool false)], args := [d1, d2, d3] }
  | _ => none }
def ShaSumsWrongFalsely : Prop := shaSumsRow.holds Try.pinned (OpenSpec.ofChange shaSumsWrong)

/-- 'rootcellarlaw02.ShaScript': WHATEVER THE INPUT: true; the input reads as it did. -/
def shaScriptSpec : ChangeSpec := { name := "shaScript", fn := fun _ => fun
  | [d] => { results := [.lit (.bool true)], args := [d] }
  | _ => none }
def shaScriptRow : OpenClaim := { program := "ytehbahobkgoapaa", sum := "b9a0d4291eebd78427ee49435ce3bad92e0a50c95c0f5221d213047e06af6215", func := "rootcellar/rootcellarlaw02.ShaScript", spec := "shaScript", apart := false }
def ShaScriptSaid : Prop := shaScriptRow.holds Try.pinned (OpenSpec.ofChange shaScriptSpec)

/-- ITS FALSE NEIGHBOUR: 'it returns false'. Refute it at one input. -/
def shaScriptWrong : ChangeSpec := { name := "shaScript", fn := fun _ => fun
  | [d] => { results := [.lit (.bool false)], args := [d] }
  | _ => none }
def ShaScriptWrongFalsely : Prop := shaScriptRow.holds Try.pinned (OpenSpec.ofChange shaScriptWrong)

/-- 'rootcellarlaw03.TagTells': WHATEVER THE INPUT: true; the input reads as it did. -/
def tagTellsSpec : ChangeSpec := { name := "tagTells", fn := fun _ => fun
  | [d1, d2, d3, d4, d5, d6] => { results := [.lit (.bool true)], args := [d1, d2, d3, d4, d5, d6] }
  | _ => none }
def tagTellsRow : OpenClaim := { program := "ytehbahobkgoapaa", sum := "b9a0d4291eebd78427ee49435ce3bad92e0a50c95c0f5221d213047e06af6215", func := "rootcellar/rootcellarlaw03.TagTells", spec := "tagTells", apart := false }
def TagTellsSaid : Prop := tagTellsRow.holds Try.pinned (OpenSpec.ofChange tagTellsSpec)

/-- ITS FALSE NEIGHBOUR: 'it returns false'. Refute it at one input. -/
def tagTellsWrong : ChangeSpec := { name := "tagTells", fn := fun _ => fun
  | [d1, d2, d3, d4, d5, d6] => { results := [.lit (.bool false)], args := [d1, d2, d3, d4, d5, d6] }
  | _ => none }
def TagTellsWrongFalsely : Prop := tagTellsRow.holds Try.pinned (OpenSpec.ofChange tagTellsWrong)

/-- 'rootcellarlaw03.TagClash': WHATEVER THE INPUT: true; the input reads as it did. -/
def tagClashSpec : ChangeSpec := { name := "tagClash", fn := fun _ => fun
  | [d] => { results := [.lit (.bool true)], args := [d] }
  | _ => none }
def tagClashRow : OpenClaim := { program := "ytehbahobkgoapaa", sum := "b9a0d4291eebd78427ee49435ce3bad92e0a50c95c0f5221d213047e06af6215", func := "rootcellar/rootcellarlaw03.TagClash", spec := "tagClash", inPlace := ["internal/bytealg.abigen_runtime_cmpstring"], apart := false }
def TagClashSaid : Prop := tagClashRow.holds Try.pinned (OpenSpec.ofChange tagClashSpec)

/-- ITS FALSE NEIGHBOUR: 'it returns false'. Refute it at one input. -/
def tagClashWrong : ChangeSpec := { name := "tagClash", fn := fun _ => fun
  | [d] => { results := [.lit (.bool false)], args := [d] }
  | _ => none }
def TagClashWrongFalsely : Prop := tagClashRow.holds Try.pinned (OpenSpec.ofChange tagClashWrong)

/-- 'rootcellarlaw02.ShaPieces': WHATEVER THE INPUT: true; the input reads as it did. -/
def shaPiecesSpec : ChangeSpec := { name := "shaPieces", fn := fun _ => fun
  | [d1, d2, d3] => { results := [.lit (.bool true)], args := [d1, d2, d3] }
  | _ => none }
def shaPiecesRow : OpenClaim := { program := "ytehbahobkgoapaa", sum := "b9a0d4291eebd78427ee49435ce3bad92e0a50c95c0f5221d213047e06af6215", func := "rootcellar/rootcellarlaw02.ShaPieces", spec := "shaPieces", apart := false }
def ShaPiecesSaid : Prop := shaPiecesRow.holds Try.pinned (OpenSpec.ofChange shaPiecesSpec)

/-- ITS FALSE NEIGHBOUR: 'it returns false'. Refute it at one input. -/
def shaPiecesWrong : ChangeSpec := { name := "shaPieces", fn := fun _ => fun
  | [d1, d2, d3] => { results := [.lit (.bool false)], args := [d1, d2, d3] }
  | _ => none }
def ShaPiecesWrongFalsely : Prop := shaPiecesRow.holds Try.pinned (OpenSpec.ofChange shaPiecesWrong)

/-- 'rootcellarlaw02.ShaNil': WHATEVER THE INPUT: true; the input reads as it did. -/
def shaNilSpec : ChangeSpec := { name := "shaNil", fn := fun _ => fun
  | [d] => { results := [.lit (.bool true)], args := [d] }
  | _ => none }
def shaNilRow : OpenClaim := { program := "ytehbahobkgoapaa", sum := "b9a0d4291eebd78427ee49435ce3bad92e0a50c95c0f5221d213047e06af6215", func := "rootcellar/rootcellarlaw02.ShaNil", spec := "shaNil", apart := false }
def ShaNilSaid : Prop := shaNilRow.holds Try.pinned (OpenSpec.ofChange shaNilSpec)

/-- ITS FALSE NEIGHBOUR: 'it returns false'. Refute it at one input. -/
def shaNilWrong : ChangeSpec := { name := "shaNil", fn := fun _ => fun
  | [d] => { results := [.lit (.bool false)], args := [d] }
  | _ => none }
def ShaNilWrongFalsely : Prop := shaNilRow.holds Try.pinned (OpenSpec.ofChange shaNilWrong)

/-- 'rootcellarlaw03.TagApart': WHATEVER THE INPUT: true; the input reads as it did. -/
def tagApartSpec : ChangeSpec := { name := "tagApart", fn := fun _ => fun
  | [d1, d2, d3, d4, d5, d6] => { results := [.lit (.bool true)], args := [d1, d2, d3, d4, d5, d6] }
  | _ => none }
def tagApartRow : OpenClaim := { program := "ytehbahobkgoapaa", sum := "b9a0d4291eebd78427ee49435ce3bad92e0a50c95c0f5221d213047e06af6215", func := "rootcellar/rootcellarlaw03.TagApart", spec := "tagApart", apart := false }
def TagApartSaid : Prop := tagApartRow.holds Try.pinned (OpenSpec.ofChange tagApartSpec)

/-- ITS FALSE NEIGHBOUR: 'it returns false'. Refute it at one input. -/
def tagApartWrong : ChangeSpec := { name := "tagApart", fn := fun _ => fun
  | [d1, d2, d3, d4, d5, d6] => { results := [.lit (.bool false)], args := [d1, d2, d3, d4, d5, d6] }
  | _ => none }
def TagApartWrongFalsely : Prop := tagApartRow.holds Try.pinned (OpenSpec.ofChange tagApartWrong)

/-- 'rootcellarlaw25.ChainFolds': WHATEVER THE INPUT: true; the input reads as it did. -/
def chainFoldsSpec : ChangeSpec := { name := "chainFolds", fn := fun _ => fun
  | [d1, d2, d3, d4] => { results := [.lit (.bool true)], args := [d1, d2, d3, d4] }
  | _ => none }
def chainFoldsRow : OpenClaim := { program := "ytehbahobkgoapaa", sum := "b9a0d4291eebd78427ee49435ce3bad92e0a50c95c0f5221d213047e06af6215", func := "rootcellar/rootcellarlaw25.ChainFolds", spec := "chainFolds", apart := false }
def ChainFoldsSaid : Prop := chainFoldsRow.holds Try.pinned (OpenSpec.ofChange chainFoldsSpec)

/-- ITS FALSE NEIGHBOUR: 'it returns false'. Refute it at one input. -/
def chainFoldsWrong : ChangeSpec := { name := "chainFolds", fn := fun _ => fun
  | [d1, d2, d3, d4] => { results := [.lit (.bool false)], args := [d1, d2, d3, d4] }
  | _ => none }
def ChainFoldsWrongFalsely : Prop := chainFoldsRow.holds Try.pinned (OpenSpec.ofChange chainFoldsWrong)

/-- 'rootcellarlaw25.ChainNone': WHATEVER THE INPUT: true; the input reads as it did. -/
def chainNoneSpec : ChangeSpec := { name := "chainNone", fn := fun _ => fun
  | [d] => { results := [.lit (.bool true)], args := [d] }
  | _ => none }
def chainNoneRow : OpenClaim := { program := "ytehbahobkgoapaa", sum := "b9a0d4291eebd78427ee49435ce3bad92e0a50c95c0f5221d213047e06af6215", func := "rootcellar/rootcellarlaw25.ChainNone", spec := "chainNone", apart := false }
def ChainNoneSaid : Prop := chainNoneRow.holds Try.pinned (OpenSpec.ofChange chainNoneSpec)

/-- ITS FALSE NEIGHBOUR: 'it returns false'. Refute it at one input. -/
def chainNoneWrong : ChangeSpec := { name := "chainNone", fn := fun _ => fun
  | [d] => { results := [.lit (.bool false)], args := [d] }
  | _ => none }
def ChainNoneWrongFalsely : Prop := chainNoneRow.holds Try.pinned (OpenSpec.ofChange chainNoneWrong)

/-- 'rootcellarlaw25.ChainSays': WHATEVER THE INPUT: true; the input reads as it did. -/
def chainSaysSpec : ChangeSpec := { name := "chainSays", fn := fun _ => fun
  | [d1, d2] => { results := [.lit (.bool true)], args := [d1, d2] }
  | _ => none }
def chainSaysRow : OpenClaim := { program := "ytehbahobkgoapaa", sum := "b9a0d4291eebd78427ee49435ce3bad92e0a50c95c0f5221d213047e06af6215", func := "rootcellar/rootcellarlaw25.ChainSays", spec := "chainSays", inPlace := ["internal/bytealg.abigen_runtime_cmpstring"], apart := false }
def ChainSaysSaid : Prop := chainSaysRow.holds Try.pinned (OpenSpec.ofChange chainSaysSpec)

/-- ITS FALSE NEIGHBOUR: 'it returns false'. Refute it at one input. -/
def chainSaysWrong : ChangeSpec := { name := "chainSays", fn := fun _ => fun
  | [d1, d2] => { results := [.lit (.bool false)], args := [d1, d2] }
  | _ => none }
def ChainSaysWrongFalsely : Prop := chainSaysRow.holds Try.pinned (OpenSpec.ofChange chainSaysWrong)

/-- 'rootcellarlaw25.ChainScript': WHATEVER THE INPUT: true; the input reads as it did. -/
def chainScriptSpec : ChangeSpec := { name := "chainScript", fn := fun _ => fun
  | [d1, d2] => { results := [.lit (.bool true)], args := [d1, d2] }
  | _ => none }
def chainScriptRow : OpenClaim := { program := "ytehbahobkgoapaa", sum := "b9a0d4291eebd78427ee49435ce3bad92e0a50c95c0f5221d213047e06af6215", func := "rootcellar/rootcellarlaw25.ChainScript", spec := "chainScript", apart := false }
def ChainScriptSaid : Prop := chainScriptRow.holds Try.pinned (OpenSpec.ofChange chainScriptSpec)

/-- ITS FALSE NEIGHBOUR: 'it returns false'. Refute it at one input. -/
def chainScriptWrong : ChangeSpec := { name := "chainScript", fn := fun _ => fun
  | [d1, d2] => { results := [.lit (.bool false)], args := [d1, d2] }
  | _ => none }
def ChainScriptWrongFalsely : Prop := chainScriptRow.holds Try.pinned (OpenSpec.ofChange chainScriptWrong)

/-- 'rootcellarlaw25.ChainPieces': WHATEVER THE INPUT: true; the input reads as it did. -/
def chainPiecesSpec : ChangeSpec := { name := "chainPieces", fn := fun _ => fun
  | [d1, d2, d3] => { results := [.lit (.bool true)], args := [d1, d2, d3] }
  | _ => none }
def chainPiecesRow : OpenClaim := { program := "ytehbahobkgoapaa", sum := "b9a0d4291eebd78427ee49435ce3bad92e0a50c95c0f5221d213047e06af6215", func := "rootcellar/rootcellarlaw25.ChainPieces", spec := "chainPieces", apart := false }
def ChainPiecesSaid : Prop := chainPiecesRow.holds Try.pinned (OpenSpec.ofChange chainPiecesSpec)

/-- ITS FALSE NEIGHBOUR: 'it returns false'. Refute it at one input. -/
def chainPiecesWrong : ChangeSpec := { name := "chainPieces", fn := fun _ => fun
  | [d1, d2, d3] => { results := [.lit (.bool false)], args := [d1, d2, d3] }
  | _ => none }
def ChainPiecesWrongFalsely : Prop := chainPiecesRow.holds Try.pinned (OpenSpec.ofChange chainPiecesWrong)

/-- 'rootcellarlaw25.ChainKnown': WHATEVER THE INPUT: true; the input reads as it did. -/
def chainKnownSpec : ChangeSpec := { name := "chainKnown", fn := fun _ => fun
  | [] => { results := [.lit (.bool true)], args := [] }
  | _ => none }
def chainKnownRow : OpenClaim := { program := "ytehbahobkgoapaa", sum := "b9a0d4291eebd78427ee49435ce3bad92e0a50c95c0f5221d213047e06af6215", func := "rootcellar/rootcellarlaw25.ChainKnown", spec := "chainKnown", apart := false }
def ChainKnownSaid : Prop := chainKnownRow.holds Try.pinned (OpenSpec.ofChange chainKnownSpec)

/-- ITS FALSE NEIGHBOUR: 'it returns false'. Refute it at one input. -/
def chainKnownWrong : ChangeSpec := { name := "chainKnown", fn := fun _ => fun
  | [] => { results := [.lit (.bool false)], args := [] }
  | _ => none }
def ChainKnownWrongFalsely : Prop := chainKnownRow.holds Try.pinned (OpenSpec.ofChange chainKnownWrong)

/- THE SECOND FORM. 'bulk': how many values and letters a reading holds, each counted each time it is reached (what is shared counts as often as it is met; a slice's spare places count too). A statement '..UptoSaid' is the law's where the arguments, and the package variables that the reading takes, are together of bulk at most 1048576: NARROWER than '..Said'. Prove '..Said' where nothing that the law and all that it calls make is longer than what came in: it says more and counts as full. Else prove '..UptoSaid'. A law counts once. -/
mutual
def uptoBulk {H : Type} : DataW H → Nat
  | .lit (.string bytes) => bytes.length + 1
  | .lit _ => 1
  | .nil => 1
  | .ptr d => uptoBulk d + 1
  | .slice elems spare => uptoBulkAll elems + uptoBulkAll spare + 1
  | .agg parts => uptoBulkAll parts + 1
  | .iface _ d => uptoBulk d + 1
  | .map entries => uptoBulkEntries entries + 1
  | .held _ => 1
def uptoBulkAll {H : Type} : List (DataW H) → Nat
  | [] => 0
  | d :: r => uptoBulk d + uptoBulkAll r
def uptoBulkEntries {H : Type} : List (Lit × DataW H) → Nat
  | [] => 0
  | x :: r => uptoBulkEntry x + uptoBulkEntries r
def uptoBulkEntry {H : Type} : Lit × DataW H → Nat
  | (.string bytes, d) => bytes.length + uptoBulk d + 1
  | (_, d) => uptoBulk d + 1
 end
def uptoSmall : (H : Type) → List (DataW H) → Bool := fun _ ds => decide (uptoBulkAll ds ≤ 1048576)
def OpenSpec.upto (s : _root_.Go.ChangeSpec) : _root_.Go.OpenSpec := { _root_.Go.OpenSpec.ofChange s with cond := some uptoSmall }

/-- 'rootcellarlaw03.TagTexts', WHERE WHAT IT READS IS OF BULK AT MOST 1048576: true; the input reads as it did. -/
def tagTextsUptoRow : OpenClaim := { program := "ytehbahobkgoapaa", sum := "b9a0d4291eebd78427ee49435ce3bad92e0a50c95c0f5221d213047e06af6215", func := "rootcellar/rootcellarlaw03.TagTexts", spec := "tagTexts", apart := false, narrowed := true }
def TagTextsUptoSaid : Prop := tagTextsUptoRow.holds Try.pinned (OpenSpec.upto tagTextsSpec)

/-- 'rootcellarlaw01.OctetNumbers', WHERE WHAT IT READS IS OF BULK AT MOST 1048576: true; the input reads as it did. -/
def octetNumbersUptoRow : OpenClaim := { program := "ytehbahobkgoapaa", sum := "b9a0d4291eebd78427ee49435ce3bad92e0a50c95c0f5221d213047e06af6215", func := "rootcellar/rootcellarlaw01.OctetNumbers", spec := "octetNumbers", apart := false, narrowed := true }
def OctetNumbersUptoSaid : Prop := octetNumbersUptoRow.holds Try.pinned (OpenSpec.upto octetNumbersSpec)

/-- 'rootcellarlaw01.OctetReader', WHERE WHAT IT READS IS OF BULK AT MOST 1048576: true; the input reads as it did. -/
def octetReaderUptoRow : OpenClaim := { program := "ytehbahobkgoapaa", sum := "b9a0d4291eebd78427ee49435ce3bad92e0a50c95c0f5221d213047e06af6215", func := "rootcellar/rootcellarlaw01.OctetReader", spec := "octetReader", apart := false, narrowed := true }
def OctetReaderUptoSaid : Prop := octetReaderUptoRow.holds Try.pinned (OpenSpec.upto octetReaderSpec)

/-- 'rootcellarlaw01.OctetNil', WHERE WHAT IT READS IS OF BULK AT MOST 1048576: true; the input reads as it did. -/
def octetNilUptoRow : OpenClaim := { program := "ytehbahobkgoapaa", sum := "b9a0d4291eebd78427ee49435ce3bad92e0a50c95c0f5221d213047e06af6215", func := "rootcellar/rootcellarlaw01.OctetNil", spec := "octetNil", apart := false, narrowed := true }
def OctetNilUptoSaid : Prop := octetNilUptoRow.holds Try.pinned (OpenSpec.upto octetNilSpec)

/-- 'rootcellarlaw04.PathOrder', WHERE WHAT IT READS IS OF BULK AT MOST 1048576: true; the input reads as it did. -/
def pathOrderUptoRow : OpenClaim := { program := "ytehbahobkgoapaa", sum := "b9a0d4291eebd78427ee49435ce3bad92e0a50c95c0f5221d213047e06af6215", func := "rootcellar/rootcellarlaw04.PathOrder", spec := "pathOrder", inPlace := ["internal/bytealg.abigen_runtime_cmpstring"], apart := false, narrowed := true }
def PathOrderUptoSaid : Prop := pathOrderUptoRow.holds Try.pinned (OpenSpec.upto pathOrderSpec)

/-- 'rootcellarlaw01.OctetHex', WHERE WHAT IT READS IS OF BULK AT MOST 1048576: true; the input reads as it did. -/
def octetHexUptoRow : OpenClaim := { program := "ytehbahobkgoapaa", sum := "b9a0d4291eebd78427ee49435ce3bad92e0a50c95c0f5221d213047e06af6215", func := "rootcellar/rootcellarlaw01.OctetHex", spec := "octetHex", inPlace := ["internal/bytealg.IndexByteString", "internal/bytealg.abigen_runtime_cmpstring"], apart := false, narrowed := true }
def OctetHexUptoSaid : Prop := octetHexUptoRow.holds Try.pinned (OpenSpec.upto octetHexSpec)

/-- 'rootcellarlaw04.PathUnder', WHERE WHAT IT READS IS OF BULK AT MOST 1048576: true; the input reads as it did. -/
def pathUnderUptoRow : OpenClaim := { program := "ytehbahobkgoapaa", sum := "b9a0d4291eebd78427ee49435ce3bad92e0a50c95c0f5221d213047e06af6215", func := "rootcellar/rootcellarlaw04.PathUnder", spec := "pathUnder", inPlace := ["internal/bytealg.abigen_runtime_cmpstring"], apart := false, narrowed := true }
def PathUnderUptoSaid : Prop := pathUnderUptoRow.holds Try.pinned (OpenSpec.upto pathUnderSpec)

/-- 'rootcellarlaw04.PathTells', WHERE WHAT IT READS IS OF BULK AT MOST 1048576: true; the input reads as it did. -/
def pathTellsUptoRow : OpenClaim := { program := "ytehbahobkgoapaa", sum := "b9a0d4291eebd78427ee49435ce3bad92e0a50c95c0f5221d213047e06af6215", func := "rootcellar/rootcellarlaw04.PathTells", spec := "pathTells", inPlace := ["internal/bytealg.abigen_runtime_cmpstring"], apart := false, narrowed := true }
def PathTellsUptoSaid : Prop := pathTellsUptoRow.holds Try.pinned (OpenSpec.upto pathTellsSpec)

/-- 'rootcellarlaw01.OctetBack', WHERE WHAT IT READS IS OF BULK AT MOST 1048576: true; the input reads as it did. -/
def octetBackUptoRow : OpenClaim := { program := "ytehbahobkgoapaa", sum := "b9a0d4291eebd78427ee49435ce3bad92e0a50c95c0f5221d213047e06af6215", func := "rootcellar/rootcellarlaw01.OctetBack", spec := "octetBack", inPlace := ["internal/bytealg.IndexByteString"], apart := false, narrowed := true }
def OctetBackUptoSaid : Prop := octetBackUptoRow.holds Try.pinned (OpenSpec.upto octetBackSpec)

/-- 'rootcellarlaw02.ShaSums', WHERE WHAT IT READS IS OF BULK AT MOST 1048576: true; the input reads as it did. -/
def shaSumsUptoRow : OpenClaim := { program := "ytehbahobkgoapaa", sum := "b9a0d4291eebd78427ee49435ce3bad92e0a50c95c0f5221d213047e06af6215", func := "rootcellar/rootcellarlaw02.ShaSums", spec := "shaSums", apart := false, narrowed := true }
def ShaSumsUptoSaid : Prop := shaSumsUptoRow.holds Try.pinned (OpenSpec.upto shaSumsSpec)

/-- 'rootcellarlaw02.ShaScript', WHERE WHAT IT READS IS OF BULK AT MOST 1048576: true; the input reads as it did. -/
def shaScriptUptoRow : OpenClaim := { program := "ytehbahobkgoapaa", sum := "b9a0d4291eebd78427ee49435ce3bad92e0a50c95c0f5221d213047e06af6215", func := "rootcellar/rootcellarlaw02.ShaScript", spec := "shaScript", apart := false, narrowed := true }
def ShaScriptUptoSaid : Prop := shaScriptUptoRow.holds Try.pinned (OpenSpec.upto shaScriptSpec)

/-- 'rootcellarlaw03.TagTells', WHERE WHAT IT READS IS OF BULK AT MOST 1048576: true; the input reads as it did. -/
def tagTellsUptoRow : OpenClaim := { program := "ytehbahobkgoapaa", sum := "b9a0d4291eebd78427ee49435ce3bad92e0a50c95c0f5221d213047e06af6215", func := "rootcellar/rootcellarlaw03.TagTells", spec := "tagTells", apart := false, narrowed := true }
def TagTellsUptoSaid : Prop := tagTellsUptoRow.holds Try.pinned (OpenSpec.upto tagTellsSpec)

/-- 'rootcellarlaw03.TagClash', WHERE WHAT IT READS IS OF BULK AT MOST 1048576: true; the input reads as it did. -/
def tagClashUptoRow : OpenClaim := { program := "ytehbahobkgoapaa", sum := "b9a0d4291eebd78427ee49435ce3bad92e0a50c95c0f5221d213047e06af6215", func := "rootcellar/rootcellarlaw03.TagClash", spec := "tagClash", inPlace := ["internal/bytealg.abigen_runtime_cmpstring"], apart := false, narrowed := true }
def TagClashUptoSaid : Prop := tagClashUptoRow.holds Try.pinned (OpenSpec.upto tagClashSpec)

/-- 'rootcellarlaw02.ShaPieces', WHERE WHAT IT READS IS OF BULK AT MOST 1048576: true; the input reads as it did. -/
def shaPiecesUptoRow : OpenClaim := { program := "ytehbahobkgoapaa", sum := "b9a0d4291eebd78427ee49435ce3bad92e0a50c95c0f5221d213047e06af6215", func := "rootcellar/rootcellarlaw02.ShaPieces", spec := "shaPieces", apart := false, narrowed := true }
def ShaPiecesUptoSaid : Prop := shaPiecesUptoRow.holds Try.pinned (OpenSpec.upto shaPiecesSpec)

/-- 'rootcellarlaw02.ShaNil', WHERE WHAT IT READS IS OF BULK AT MOST 1048576: true; the input reads as it did. -/
def shaNilUptoRow : OpenClaim := { program := "ytehbahobkgoapaa", sum := "b9a0d4291eebd78427ee49435ce3bad92e0a50c95c0f5221d213047e06af6215", func := "rootcellar/rootcellarlaw02.ShaNil", spec := "shaNil", apart := false, narrowed := true }
def ShaNilUptoSaid : Prop := shaNilUptoRow.holds Try.pinned (OpenSpec.upto shaNilSpec)

/-- 'rootcellarlaw03.TagApart', WHERE WHAT IT READS IS OF BULK AT MOST 1048576: true; the input reads as it did. -/
def tagApartUptoRow : OpenClaim := { program := "ytehbahobkgoapaa", sum := "b9a0d4291eebd78427ee49435ce3bad92e0a50c95c0f5221d213047e06af6215", func := "rootcellar/rootcellarlaw03.TagApart", spec := "tagApart", apart := false, narrowed := true }
def TagApartUptoSaid : Prop := tagApartUptoRow.holds Try.pinned (OpenSpec.upto tagApartSpec)

/-- 'rootcellarlaw25.ChainFolds', WHERE WHAT IT READS IS OF BULK AT MOST 1048576: true; the input reads as it did. -/
def chainFoldsUptoRow : OpenClaim := { program := "ytehbahobkgoapaa", sum := "b9a0d4291eebd78427ee49435ce3bad92e0a50c95c0f5221d213047e06af6215", func := "rootcellar/rootcellarlaw25.ChainFolds", spec := "chainFolds", apart := false, narrowed := true }
def ChainFoldsUptoSaid : Prop := chainFoldsUptoRow.holds Try.pinned (OpenSpec.upto chainFoldsSpec)

/-- 'rootcellarlaw25.ChainNone', WHERE WHAT IT READS IS OF BULK AT MOST 1048576: true; the input reads as it did. -/
def chainNoneUptoRow : OpenClaim := { program := "ytehbahobkgoapaa", sum := "b9a0d4291eebd78427ee49435ce3bad92e0a50c95c0f5221d213047e06af6215", func := "rootcellar/rootcellarlaw25.ChainNone", spec := "chainNone", apart := false, narrowed := true }
def ChainNoneUptoSaid : Prop := chainNoneUptoRow.holds Try.pinned (OpenSpec.upto chainNoneSpec)

/-- 'rootcellarlaw25.ChainSays', WHERE WHAT IT READS IS OF BULK AT MOST 1048576: true; the input reads as it did. -/
def chainSaysUptoRow : OpenClaim := { program := "ytehbahobkgoapaa", sum := "b9a0d4291eebd78427ee49435ce3bad92e0a50c95c0f5221d213047e06af6215", func := "rootcellar/rootcellarlaw25.ChainSays", spec := "chainSays", inPlace := ["internal/bytealg.abigen_runtime_cmpstring"], apart := false, narrowed := true }
def ChainSaysUptoSaid : Prop := chainSaysUptoRow.holds Try.pinned (OpenSpec.upto chainSaysSpec)

/-- 'rootcellarlaw25.ChainScript', WHERE WHAT IT READS IS OF BULK AT MOST 1048576: true; the input reads as it did. -/
def chainScriptUptoRow : OpenClaim := { program := "ytehbahobkgoapaa", sum := "b9a0d4291eebd78427ee49435ce3bad92e0a50c95c0f5221d213047e06af6215", func := "rootcellar/rootcellarlaw25.ChainScript", spec := "chainScript", apart := false, narrowed := true }
def ChainScriptUptoSaid : Prop := chainScriptUptoRow.holds Try.pinned (OpenSpec.upto chainScriptSpec)

/-- 'rootcellarlaw25.ChainPieces', WHERE WHAT IT READS IS OF BULK AT MOST 1048576: true; the input reads as it did. -/
def chainPiecesUptoRow : OpenClaim := { program := "ytehbahobkgoapaa", sum := "b9a0d4291eebd78427ee49435ce3bad92e0a50c95c0f5221d213047e06af6215", func := "rootcellar/rootcellarlaw25.ChainPieces", spec := "chainPieces", apart := false, narrowed := true }
def ChainPiecesUptoSaid : Prop := chainPiecesUptoRow.holds Try.pinned (OpenSpec.upto chainPiecesSpec)

/-- 'rootcellarlaw25.ChainKnown', WHERE WHAT IT READS IS OF BULK AT MOST 1048576: true; the input reads as it did. -/
def chainKnownUptoRow : OpenClaim := { program := "ytehbahobkgoapaa", sum := "b9a0d4291eebd78427ee49435ce3bad92e0a50c95c0f5221d213047e06af6215", func := "rootcellar/rootcellarlaw25.ChainKnown", spec := "chainKnown", apart := false, narrowed := true }
def ChainKnownUptoSaid : Prop := chainKnownUptoRow.holds Try.pinned (OpenSpec.upto chainKnownSpec)

end Rows
end Go.Proofs.Ytehbahobkgoapaa
