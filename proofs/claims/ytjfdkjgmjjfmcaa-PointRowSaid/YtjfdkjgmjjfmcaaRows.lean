/-
  No cell of these rows narrows 'for every input' (looked for: loops, veiled, ifaces, maps, wideKeys, modest, calm, conditions, laid).
  DERIVED. THE GIVEN ROWS OF THIS SEAT. 21 by the template 'for every input the law returns true; each argument reads behind the call as it read before'; 0 by the template 'total and deterministic' (their statements: YtjfdkjgmjjfmcaaTotals.lean).
  GIVEN WITH THE SEED: the statements are not yours to turn. If you find one false, say at which input.
  Laid BY PROGRAM, IN A SANDBOX (cutbox-rows.mjs): the forced cells as the released guide's own fill.sh prints them over the translation 2f8f1459ec73dd86… (all of the seat's roots in one cut). By AI agents, Wed Nov 11 2026. No macro, syntax, notation, axiom, sorry.
-/
import Derived.Test.YtjfdkjgmjjfmcaaChecked
import GoSem.Claim
import GoSem.ClaimJoined
import GoSem.ClaimMapViews
import Derived.JoinedTies
import Derived.KernelRfl
namespace Go.Proofs.Ytjfdkjgmjjfmcaa
/- THE CELL 'sum', in the pinned program and in every row, IS THE sha256 OF THE DUMP (.gsa) THAT YtjfdkjgmjjfmcaaProg.lean LOADS. Nothing in Lean hashes anything: it is a label: what it is worth is what the hold of that sum in a sandbox is worth. -/
noncomputable def Try.pinned : Pinned := { name := "ytjfdkjgmjjfmcaa", sum := "2f8f1459ec73dd8667cdb0a0350d04ba3186ae01017614c8094f337356f87583", checked := Try.checked }
namespace Rows
def none {H : Type} : Left H := { results := [], args := [] }

/-- 'cachetlaw1.SumHashes': WHATEVER THE INPUT: true; the input reads as it did. -/
def sumHashesSpec : ChangeSpec := { name := "sumHashes", fn := fun _ => fun
  | [d1, d2] => { results := [.lit (.bool true)], args := [d1, d2] }
  | _ => none }
def sumHashesRow : OpenClaim := { program := "ytjfdkjgmjjfmcaa", sum := "2f8f1459ec73dd8667cdb0a0350d04ba3186ae01017614c8094f337356f87583", func := "cachet/cachetlaw1.SumHashes", spec := "sumHashes", apart := false }
def SumHashesSaid : Prop := sumHashesRow.holds Try.pinned (OpenSpec.ofChange sumHashesSpec)

/-- ITS FALSE NEIGHBOUR: 'it returns false'. Refute it at one input. -/
def sumHashesWrong : ChangeSpec := { name := "sumHashes", fn := fun _ => fun
  | [d1, d2] => { results := [.lit (.bool false)], args := [d1, d2] }
  | _ => none }
def SumHashesWrongFalsely : Prop := sumHashesRow.holds Try.pinned (OpenSpec.ofChange sumHashesWrong)

/-- 'cachetlaw1.SumTurns': WHATEVER THE INPUT: true; the input reads as it did. -/
def sumTurnsSpec : ChangeSpec := { name := "sumTurns", fn := fun _ => fun
  | [d1, d2, d3] => { results := [.lit (.bool true)], args := [d1, d2, d3] }
  | _ => none }
def sumTurnsRow : OpenClaim := { program := "ytjfdkjgmjjfmcaa", sum := "2f8f1459ec73dd8667cdb0a0350d04ba3186ae01017614c8094f337356f87583", func := "cachet/cachetlaw1.SumTurns", spec := "sumTurns", apart := false }
def SumTurnsSaid : Prop := sumTurnsRow.holds Try.pinned (OpenSpec.ofChange sumTurnsSpec)

/-- ITS FALSE NEIGHBOUR: 'it returns false'. Refute it at one input. -/
def sumTurnsWrong : ChangeSpec := { name := "sumTurns", fn := fun _ => fun
  | [d1, d2, d3] => { results := [.lit (.bool false)], args := [d1, d2, d3] }
  | _ => none }
def SumTurnsWrongFalsely : Prop := sumTurnsRow.holds Try.pinned (OpenSpec.ofChange sumTurnsWrong)

/-- 'cachetlaw1.SumSteps': WHATEVER THE INPUT: true; the input reads as it did. -/
def sumStepsSpec : ChangeSpec := { name := "sumSteps", fn := fun _ => fun
  | [d1, d2] => { results := [.lit (.bool true)], args := [d1, d2] }
  | _ => none }
def sumStepsRow : OpenClaim := { program := "ytjfdkjgmjjfmcaa", sum := "2f8f1459ec73dd8667cdb0a0350d04ba3186ae01017614c8094f337356f87583", func := "cachet/cachetlaw1.SumSteps", spec := "sumSteps", apart := false }
def SumStepsSaid : Prop := sumStepsRow.holds Try.pinned (OpenSpec.ofChange sumStepsSpec)

/-- ITS FALSE NEIGHBOUR: 'it returns false'. Refute it at one input. -/
def sumStepsWrong : ChangeSpec := { name := "sumSteps", fn := fun _ => fun
  | [d1, d2] => { results := [.lit (.bool false)], args := [d1, d2] }
  | _ => none }
def SumStepsWrongFalsely : Prop := sumStepsRow.holds Try.pinned (OpenSpec.ofChange sumStepsWrong)

/-- 'cachetlaw1.SumHexes': WHATEVER THE INPUT: true; the input reads as it did. -/
def sumHexesSpec : ChangeSpec := { name := "sumHexes", fn := fun _ => fun
  | [d] => { results := [.lit (.bool true)], args := [d] }
  | _ => none }
def sumHexesRow : OpenClaim := { program := "ytjfdkjgmjjfmcaa", sum := "2f8f1459ec73dd8667cdb0a0350d04ba3186ae01017614c8094f337356f87583", func := "cachet/cachetlaw1.SumHexes", spec := "sumHexes", apart := false }
def SumHexesSaid : Prop := sumHexesRow.holds Try.pinned (OpenSpec.ofChange sumHexesSpec)

/-- ITS FALSE NEIGHBOUR: 'it returns false'. Refute it at one input. -/
def sumHexesWrong : ChangeSpec := { name := "sumHexes", fn := fun _ => fun
  | [d] => { results := [.lit (.bool false)], args := [d] }
  | _ => none }
def SumHexesWrongFalsely : Prop := sumHexesRow.holds Try.pinned (OpenSpec.ofChange sumHexesWrong)

/-- 'cachetlaw19.DigestLists': WHATEVER THE INPUT: true; the input reads as it did. -/
def digestListsSpec : ChangeSpec := { name := "digestLists", fn := fun _ => fun
  | [d1, d2, d3, d4] => { results := [.lit (.bool true)], args := [d1, d2, d3, d4] }
  | _ => none }
def digestListsRow : OpenClaim := { program := "ytjfdkjgmjjfmcaa", sum := "2f8f1459ec73dd8667cdb0a0350d04ba3186ae01017614c8094f337356f87583", func := "cachet/cachetlaw19.DigestLists", spec := "digestLists", apart := false }
def DigestListsSaid : Prop := digestListsRow.holds Try.pinned (OpenSpec.ofChange digestListsSpec)

/-- ITS FALSE NEIGHBOUR: 'it returns false'. Refute it at one input. -/
def digestListsWrong : ChangeSpec := { name := "digestLists", fn := fun _ => fun
  | [d1, d2, d3, d4] => { results := [.lit (.bool false)], args := [d1, d2, d3, d4] }
  | _ => none }
def DigestListsWrongFalsely : Prop := digestListsRow.holds Try.pinned (OpenSpec.ofChange digestListsWrong)

/-- 'cachetlaw19.DigestRots': WHATEVER THE INPUT: true; the input reads as it did. -/
def digestRotsSpec : ChangeSpec := { name := "digestRots", fn := fun _ => fun
  | [d1, d2] => { results := [.lit (.bool true)], args := [d1, d2] }
  | _ => none }
def digestRotsRow : OpenClaim := { program := "ytjfdkjgmjjfmcaa", sum := "2f8f1459ec73dd8667cdb0a0350d04ba3186ae01017614c8094f337356f87583", func := "cachet/cachetlaw19.DigestRots", spec := "digestRots", apart := false }
def DigestRotsSaid : Prop := digestRotsRow.holds Try.pinned (OpenSpec.ofChange digestRotsSpec)

/-- ITS FALSE NEIGHBOUR: 'it returns false'. Refute it at one input. -/
def digestRotsWrong : ChangeSpec := { name := "digestRots", fn := fun _ => fun
  | [d1, d2] => { results := [.lit (.bool false)], args := [d1, d2] }
  | _ => none }
def DigestRotsWrongFalsely : Prop := digestRotsRow.holds Try.pinned (OpenSpec.ofChange digestRotsWrong)

/-- 'cachetlaw19.DigestTurns': WHATEVER THE INPUT: true; the input reads as it did. -/
def digestTurnsSpec : ChangeSpec := { name := "digestTurns", fn := fun _ => fun
  | [d1, d2, d3, d4] => { results := [.lit (.bool true)], args := [d1, d2, d3, d4] }
  | _ => none }
def digestTurnsRow : OpenClaim := { program := "ytjfdkjgmjjfmcaa", sum := "2f8f1459ec73dd8667cdb0a0350d04ba3186ae01017614c8094f337356f87583", func := "cachet/cachetlaw19.DigestTurns", spec := "digestTurns", apart := false }
def DigestTurnsSaid : Prop := digestTurnsRow.holds Try.pinned (OpenSpec.ofChange digestTurnsSpec)

/-- ITS FALSE NEIGHBOUR: 'it returns false'. Refute it at one input. -/
def digestTurnsWrong : ChangeSpec := { name := "digestTurns", fn := fun _ => fun
  | [d1, d2, d3, d4] => { results := [.lit (.bool false)], args := [d1, d2, d3, d4] }
  | _ => none }
def DigestTurnsWrongFalsely : Prop := digestTurnsRow.holds Try.pinned (OpenSpec.ofChange digestTurnsWrong)

/-- 'cachetlaw19.DigestAlike': WHATEVER THE INPUT: true; the input reads as it did. -/
def digestAlikeSpec : ChangeSpec := { name := "digestAlike", fn := fun _ => fun
  | [d1, d2] => { results := [.lit (.bool true)], args := [d1, d2] }
  | _ => none }
def digestAlikeRow : OpenClaim := { program := "ytjfdkjgmjjfmcaa", sum := "2f8f1459ec73dd8667cdb0a0350d04ba3186ae01017614c8094f337356f87583", func := "cachet/cachetlaw19.DigestAlike", spec := "digestAlike", apart := false }
def DigestAlikeSaid : Prop := digestAlikeRow.holds Try.pinned (OpenSpec.ofChange digestAlikeSpec)

/-- ITS FALSE NEIGHBOUR: 'it returns false'. Refute it at one input. -/
def digestAlikeWrong : ChangeSpec := { name := "digestAlike", fn := fun _ => fun
  | [d1, d2] => { results := [.lit (.bool false)], args := [d1, d2] }
  | _ => none }
def DigestAlikeWrongFalsely : Prop := digestAlikeRow.holds Try.pinned (OpenSpec.ofChange digestAlikeWrong)

/-- 'cachetlaw19.DigestGaps': WHATEVER THE INPUT: true; the input reads as it did. -/
def digestGapsSpec : ChangeSpec := { name := "digestGaps", fn := fun _ => fun
  | [d1, d2] => { results := [.lit (.bool true)], args := [d1, d2] }
  | _ => none }
def digestGapsRow : OpenClaim := { program := "ytjfdkjgmjjfmcaa", sum := "2f8f1459ec73dd8667cdb0a0350d04ba3186ae01017614c8094f337356f87583", func := "cachet/cachetlaw19.DigestGaps", spec := "digestGaps", apart := false }
def DigestGapsSaid : Prop := digestGapsRow.holds Try.pinned (OpenSpec.ofChange digestGapsSpec)

/-- ITS FALSE NEIGHBOUR: 'it returns false'. Refute it at one input. -/
def digestGapsWrong : ChangeSpec := { name := "digestGaps", fn := fun _ => fun
  | [d1, d2] => { results := [.lit (.bool false)], args := [d1, d2] }
  | _ => none }
def DigestGapsWrongFalsely : Prop := digestGapsRow.holds Try.pinned (OpenSpec.ofChange digestGapsWrong)

/-- 'cachetlaw2.WireNums': WHATEVER THE INPUT: true; the input reads as it did. -/
def wireNumsSpec : ChangeSpec := { name := "wireNums", fn := fun _ => fun
  | [d1, d2, d3] => { results := [.lit (.bool true)], args := [d1, d2, d3] }
  | _ => none }
def wireNumsRow : OpenClaim := { program := "ytjfdkjgmjjfmcaa", sum := "2f8f1459ec73dd8667cdb0a0350d04ba3186ae01017614c8094f337356f87583", func := "cachet/cachetlaw2.WireNums", spec := "wireNums", apart := false }
def WireNumsSaid : Prop := wireNumsRow.holds Try.pinned (OpenSpec.ofChange wireNumsSpec)

/-- ITS FALSE NEIGHBOUR: 'it returns false'. Refute it at one input. -/
def wireNumsWrong : ChangeSpec := { name := "wireNums", fn := fun _ => fun
  | [d1, d2, d3] => { results := [.lit (.bool false)], args := [d1, d2, d3] }
  | _ => none }
def WireNumsWrongFalsely : Prop := wireNumsRow.holds Try.pinned (OpenSpec.ofChange wireNumsWrong)

/-- 'cachetlaw2.WireShort': WHATEVER THE INPUT: true; the input reads as it did. -/
def wireShortSpec : ChangeSpec := { name := "wireShort", fn := fun _ => fun
  | [d] => { results := [.lit (.bool true)], args := [d] }
  | _ => none }
def wireShortRow : OpenClaim := { program := "ytjfdkjgmjjfmcaa", sum := "2f8f1459ec73dd8667cdb0a0350d04ba3186ae01017614c8094f337356f87583", func := "cachet/cachetlaw2.WireShort", spec := "wireShort", apart := false }
def WireShortSaid : Prop := wireShortRow.holds Try.pinned (OpenSpec.ofChange wireShortSpec)

/-- ITS FALSE NEIGHBOUR: 'it returns false'. Refute it at one input. -/
def wireShortWrong : ChangeSpec := { name := "wireShort", fn := fun _ => fun
  | [d] => { results := [.lit (.bool false)], args := [d] }
  | _ => none }
def WireShortWrongFalsely : Prop := wireShortRow.holds Try.pinned (OpenSpec.ofChange wireShortWrong)

/-- 'cachetlaw2.WireTexts': WHATEVER THE INPUT: true; the input reads as it did. -/
def wireTextsSpec : ChangeSpec := { name := "wireTexts", fn := fun _ => fun
  | [d1, d2, d3, d4] => { results := [.lit (.bool true)], args := [d1, d2, d3, d4] }
  | _ => none }
def wireTextsRow : OpenClaim := { program := "ytjfdkjgmjjfmcaa", sum := "2f8f1459ec73dd8667cdb0a0350d04ba3186ae01017614c8094f337356f87583", func := "cachet/cachetlaw2.WireTexts", spec := "wireTexts", apart := false }
def WireTextsSaid : Prop := wireTextsRow.holds Try.pinned (OpenSpec.ofChange wireTextsSpec)

/-- ITS FALSE NEIGHBOUR: 'it returns false'. Refute it at one input. -/
def wireTextsWrong : ChangeSpec := { name := "wireTexts", fn := fun _ => fun
  | [d1, d2, d3, d4] => { results := [.lit (.bool false)], args := [d1, d2, d3, d4] }
  | _ => none }
def WireTextsWrongFalsely : Prop := wireTextsRow.holds Try.pinned (OpenSpec.ofChange wireTextsWrong)

/-- 'cachetlaw2.WireBack': WHATEVER THE INPUT: true; the input reads as it did. -/
def wireBackSpec : ChangeSpec := { name := "wireBack", fn := fun _ => fun
  | [d1, d2, d3, d4] => { results := [.lit (.bool true)], args := [d1, d2, d3, d4] }
  | _ => none }
def wireBackRow : OpenClaim := { program := "ytjfdkjgmjjfmcaa", sum := "2f8f1459ec73dd8667cdb0a0350d04ba3186ae01017614c8094f337356f87583", func := "cachet/cachetlaw2.WireBack", spec := "wireBack", apart := false }
def WireBackSaid : Prop := wireBackRow.holds Try.pinned (OpenSpec.ofChange wireBackSpec)

/-- ITS FALSE NEIGHBOUR: 'it returns false'. Refute it at one input. -/
def wireBackWrong : ChangeSpec := { name := "wireBack", fn := fun _ => fun
  | [d1, d2, d3, d4] => { results := [.lit (.bool false)], args := [d1, d2, d3, d4] }
  | _ => none }
def WireBackWrongFalsely : Prop := wireBackRow.holds Try.pinned (OpenSpec.ofChange wireBackWrong)

/-- 'cachetlaw2.WireCuts': WHATEVER THE INPUT: true; the input reads as it did. -/
def wireCutsSpec : ChangeSpec := { name := "wireCuts", fn := fun _ => fun
  | [d1, d2] => { results := [.lit (.bool true)], args := [d1, d2] }
  | _ => none }
def wireCutsRow : OpenClaim := { program := "ytjfdkjgmjjfmcaa", sum := "2f8f1459ec73dd8667cdb0a0350d04ba3186ae01017614c8094f337356f87583", func := "cachet/cachetlaw2.WireCuts", spec := "wireCuts", apart := false }
def WireCutsSaid : Prop := wireCutsRow.holds Try.pinned (OpenSpec.ofChange wireCutsSpec)

/-- ITS FALSE NEIGHBOUR: 'it returns false'. Refute it at one input. -/
def wireCutsWrong : ChangeSpec := { name := "wireCuts", fn := fun _ => fun
  | [d1, d2] => { results := [.lit (.bool false)], args := [d1, d2] }
  | _ => none }
def WireCutsWrongFalsely : Prop := wireCutsRow.holds Try.pinned (OpenSpec.ofChange wireCutsWrong)

/-- 'cachetlaw3.PointBytes': WHATEVER THE INPUT: true; the input reads as it did. -/
def pointBytesSpec : ChangeSpec := { name := "pointBytes", fn := fun _ => fun
  | [d1, d2, d3] => { results := [.lit (.bool true)], args := [d1, d2, d3] }
  | _ => none }
def pointBytesRow : OpenClaim := { program := "ytjfdkjgmjjfmcaa", sum := "2f8f1459ec73dd8667cdb0a0350d04ba3186ae01017614c8094f337356f87583", func := "cachet/cachetlaw3.PointBytes", spec := "pointBytes", inPlace := ["internal/abi.NoEscape"], unfollowed := true, recurses := true, apart := false }
def PointBytesSaid : Prop := pointBytesRow.holds Try.pinned (OpenSpec.ofChange pointBytesSpec)

/-- ITS FALSE NEIGHBOUR: 'it returns false'. Refute it at one input. -/
def pointBytesWrong : ChangeSpec := { name := "pointBytes", fn := fun _ => fun
  | [d1, d2, d3] => { results := [.lit (.bool false)], args := [d1, d2, d3] }
  | _ => none }
def PointBytesWrongFalsely : Prop := pointBytesRow.holds Try.pinned (OpenSpec.ofChange pointBytesWrong)

/-- 'cachetlaw3.PointNames': WHATEVER THE INPUT: true; the input reads as it did. -/
def pointNamesSpec : ChangeSpec := { name := "pointNames", fn := fun _ => fun
  | [d] => { results := [.lit (.bool true)], args := [d] }
  | _ => none }
def pointNamesRow : OpenClaim := { program := "ytjfdkjgmjjfmcaa", sum := "2f8f1459ec73dd8667cdb0a0350d04ba3186ae01017614c8094f337356f87583", func := "cachet/cachetlaw3.PointNames", spec := "pointNames", inPlace := ["internal/abi.NoEscape"], unfollowed := true, recurses := true, apart := false }
def PointNamesSaid : Prop := pointNamesRow.holds Try.pinned (OpenSpec.ofChange pointNamesSpec)

/-- ITS FALSE NEIGHBOUR: 'it returns false'. Refute it at one input. -/
def pointNamesWrong : ChangeSpec := { name := "pointNames", fn := fun _ => fun
  | [d] => { results := [.lit (.bool false)], args := [d] }
  | _ => none }
def PointNamesWrongFalsely : Prop := pointNamesRow.holds Try.pinned (OpenSpec.ofChange pointNamesWrong)

/-- 'cachetlaw3.PointSmall': WHATEVER THE INPUT: true; the input reads as it did. -/
def pointSmallSpec : ChangeSpec := { name := "pointSmall", fn := fun _ => fun
  | [d1, d2] => { results := [.lit (.bool true)], args := [d1, d2] }
  | _ => none }
def pointSmallRow : OpenClaim := { program := "ytjfdkjgmjjfmcaa", sum := "2f8f1459ec73dd8667cdb0a0350d04ba3186ae01017614c8094f337356f87583", func := "cachet/cachetlaw3.PointSmall", spec := "pointSmall", inPlace := ["internal/abi.NoEscape"], unfollowed := true, recurses := true, apart := false }
def PointSmallSaid : Prop := pointSmallRow.holds Try.pinned (OpenSpec.ofChange pointSmallSpec)

/-- ITS FALSE NEIGHBOUR: 'it returns false'. Refute it at one input. -/
def pointSmallWrong : ChangeSpec := { name := "pointSmall", fn := fun _ => fun
  | [d1, d2] => { results := [.lit (.bool false)], args := [d1, d2] }
  | _ => none }
def PointSmallWrongFalsely : Prop := pointSmallRow.holds Try.pinned (OpenSpec.ofChange pointSmallWrong)

/-- 'cachetlaw3.PointMany': WHATEVER THE INPUT: true; the input reads as it did. -/
def pointManySpec : ChangeSpec := { name := "pointMany", fn := fun _ => fun
  | [d] => { results := [.lit (.bool true)], args := [d] }
  | _ => none }
def pointManyRow : OpenClaim := { program := "ytjfdkjgmjjfmcaa", sum := "2f8f1459ec73dd8667cdb0a0350d04ba3186ae01017614c8094f337356f87583", func := "cachet/cachetlaw3.PointMany", spec := "pointMany", inPlace := ["internal/abi.NoEscape"], unfollowed := true, recurses := true, apart := false }
def PointManySaid : Prop := pointManyRow.holds Try.pinned (OpenSpec.ofChange pointManySpec)

/-- ITS FALSE NEIGHBOUR: 'it returns false'. Refute it at one input. -/
def pointManyWrong : ChangeSpec := { name := "pointMany", fn := fun _ => fun
  | [d] => { results := [.lit (.bool false)], args := [d] }
  | _ => none }
def PointManyWrongFalsely : Prop := pointManyRow.holds Try.pinned (OpenSpec.ofChange pointManyWrong)

/-- 'cachetlaw3.PointTails': WHATEVER THE INPUT: true; the input reads as it did. -/
def pointTailsSpec : ChangeSpec := { name := "pointTails", fn := fun _ => fun
  | [d1, d2, d3] => { results := [.lit (.bool true)], args := [d1, d2, d3] }
  | _ => none }
def pointTailsRow : OpenClaim := { program := "ytjfdkjgmjjfmcaa", sum := "2f8f1459ec73dd8667cdb0a0350d04ba3186ae01017614c8094f337356f87583", func := "cachet/cachetlaw3.PointTails", spec := "pointTails", inPlace := ["internal/abi.NoEscape"], unfollowed := true, recurses := true, apart := false }
def PointTailsSaid : Prop := pointTailsRow.holds Try.pinned (OpenSpec.ofChange pointTailsSpec)

/-- ITS FALSE NEIGHBOUR: 'it returns false'. Refute it at one input. -/
def pointTailsWrong : ChangeSpec := { name := "pointTails", fn := fun _ => fun
  | [d1, d2, d3] => { results := [.lit (.bool false)], args := [d1, d2, d3] }
  | _ => none }
def PointTailsWrongFalsely : Prop := pointTailsRow.holds Try.pinned (OpenSpec.ofChange pointTailsWrong)

/-- 'cachetlaw3.PointForms': WHATEVER THE INPUT: true; the input reads as it did. -/
def pointFormsSpec : ChangeSpec := { name := "pointForms", fn := fun _ => fun
  | [d1, d2, d3] => { results := [.lit (.bool true)], args := [d1, d2, d3] }
  | _ => none }
def pointFormsRow : OpenClaim := { program := "ytjfdkjgmjjfmcaa", sum := "2f8f1459ec73dd8667cdb0a0350d04ba3186ae01017614c8094f337356f87583", func := "cachet/cachetlaw3.PointForms", spec := "pointForms", inPlace := ["internal/bytealg.abigen_runtime_cmpstring", "internal/abi.NoEscape"], unfollowed := true, recurses := true, apart := false }
def PointFormsSaid : Prop := pointFormsRow.holds Try.pinned (OpenSpec.ofChange pointFormsSpec)

/-- ITS FALSE NEIGHBOUR: 'it returns false'. Refute it at one input. -/
def pointFormsWrong : ChangeSpec := { name := "pointForms", fn := fun _ => fun
  | [d1, d2, d3] => { results := [.lit (.bool false)], args := [d1, d2, d3] }
  | _ => none }
def PointFormsWrongFalsely : Prop := pointFormsRow.holds Try.pinned (OpenSpec.ofChange pointFormsWrong)

/-- 'cachetlaw3.PointRow': WHATEVER THE INPUT: true; the input reads as it did. -/
def pointRowSpec : ChangeSpec := { name := "pointRow", fn := fun _ => fun
  | [d1, d2, d3] => { results := [.lit (.bool true)], args := [d1, d2, d3] }
  | _ => none }
def pointRowRow : OpenClaim := { program := "ytjfdkjgmjjfmcaa", sum := "2f8f1459ec73dd8667cdb0a0350d04ba3186ae01017614c8094f337356f87583", func := "cachet/cachetlaw3.PointRow", spec := "pointRow", inPlace := ["internal/abi.NoEscape", "internal/bytealg.abigen_runtime_cmpstring"], unfollowed := true, recurses := true, apart := false }
def PointRowSaid : Prop := pointRowRow.holds Try.pinned (OpenSpec.ofChange pointRowSpec)

/-- ITS FALSE NEIGHBOUR: 'it returns false'. Refute it at one input. -/
def pointRowWrong : ChangeSpec := { name := "pointRow", fn := fun _ => fun
  | [d1, d2, d3] => { results := [.lit (.bool false)], args := [d1, d2, d3] }
  | _ => none }
def PointRowWrongFalsely : Prop := pointRowRow.holds Try.pinned (OpenSpec.ofChange pointRowWrong)

/- THE SECOND FORM. 'bulk': how many values and letters a reading holds, each counted each time it is reached (what is shared counts as often as it is met; a slice's spare places count too). A statement '..UptoSaid' is the law's where the arguments, and the package variables that the reading takes, are together of bulk at most 1048576: NARROWER than '..Said'. Prove '..Said' where nothing that the law and all that it calls make is longer than what came in: it says more and counts as full. Else prove '..UptoSaid'. A law counts once. -/
mutual
def uptoBulk {H : Type} : DataW H → Nat
  | .lit (.string bytes) => bytes.length + 1
  | .lit _ => 1
  | .nil => 1
  | .ptr d => uptoBulk d + 1
  | .slice elems spare => uptoBulkAll elems + uptoBulkAll spare + 1
  | .agg parts => uptoBulkAll parts + 1
  | .iface _ d => uptoBulk d + 1
  | .map entries => uptoBulkEntries entries + 1
  | .held _ => 1
def uptoBulkAll {H : Type} : List (DataW H) → Nat
  | [] => 0
  | d :: r => uptoBulk d + uptoBulkAll r
def uptoBulkEntries {H : Type} : List (Lit × DataW H) → Nat
  | [] => 0
  | x :: r => uptoBulkEntry x + uptoBulkEntries r
def uptoBulkEntry {H : Type} : Lit × DataW H → Nat
  | (.string bytes, d) => bytes.length + uptoBulk d + 1
  | (_, d) => uptoBulk d + 1
 end
def uptoSmall : (H : Type) → List (DataW H) → Bool := fun _ ds => decide (uptoBulkAll ds ≤ 1048576)
def OpenSpec.upto (s : _root_.Go.ChangeSpec) : _root_.Go.OpenSpec := { _root_.Go.OpenSpec.ofChange s with cond := some uptoSmall }

/-- 'cachetlaw1.SumHashes', WHERE WHAT IT READS IS OF BULK AT MOST 1048576: true; the input reads as it did. -/
def sumHashesUptoRow : OpenClaim := { program := "ytjfdkjgmjjfmcaa", sum := "2f8f1459ec73dd8667cdb0a0350d04ba3186ae01017614c8094f337356f87583", func := "cachet/cachetlaw1.SumHashes", spec := "sumHashes", apart := false, narrowed := true }
def SumHashesUptoSaid : Prop := sumHashesUptoRow.holds Try.pinned (OpenSpec.upto sumHashesSpec)

/-- 'cachetlaw1.SumTurns', WHERE WHAT IT READS IS OF BULK AT MOST 1048576: true; the input reads as it did. -/
def sumTurnsUptoRow : OpenClaim := { program := "ytjfdkjgmjjfmcaa", sum := "2f8f1459ec73dd8667cdb0a0350d04ba3186ae01017614c8094f337356f87583", func := "cachet/cachetlaw1.SumTurns", spec := "sumTurns", apart := false, narrowed := true }
def SumTurnsUptoSaid : Prop := sumTurnsUptoRow.holds Try.pinned (OpenSpec.upto sumTurnsSpec)

/-- 'cachetlaw1.SumSteps', WHERE WHAT IT READS IS OF BULK AT MOST 1048576: true; the input reads as it did. -/
def sumStepsUptoRow : OpenClaim := { program := "ytjfdkjgmjjfmcaa", sum := "2f8f1459ec73dd8667cdb0a0350d04ba3186ae01017614c8094f337356f87583", func := "cachet/cachetlaw1.SumSteps", spec := "sumSteps", apart := false, narrowed := true }
def SumStepsUptoSaid : Prop := sumStepsUptoRow.holds Try.pinned (OpenSpec.upto sumStepsSpec)

/-- 'cachetlaw1.SumHexes', WHERE WHAT IT READS IS OF BULK AT MOST 1048576: true; the input reads as it did. -/
def sumHexesUptoRow : OpenClaim := { program := "ytjfdkjgmjjfmcaa", sum := "2f8f1459ec73dd8667cdb0a0350d04ba3186ae01017614c8094f337356f87583", func := "cachet/cachetlaw1.SumHexes", spec := "sumHexes", apart := false, narrowed := true }
def SumHexesUptoSaid : Prop := sumHexesUptoRow.holds Try.pinned (OpenSpec.upto sumHexesSpec)

/-- 'cachetlaw19.DigestLists', WHERE WHAT IT READS IS OF BULK AT MOST 1048576: true; the input reads as it did. -/
def digestListsUptoRow : OpenClaim := { program := "ytjfdkjgmjjfmcaa", sum := "2f8f1459ec73dd8667cdb0a0350d04ba3186ae01017614c8094f337356f87583", func := "cachet/cachetlaw19.DigestLists", spec := "digestLists", apart := false, narrowed := true }
def DigestListsUptoSaid : Prop := digestListsUptoRow.holds Try.pinned (OpenSpec.upto digestListsSpec)

/-- 'cachetlaw19.DigestRots', WHERE WHAT IT READS IS OF BULK AT MOST 1048576: true; the input reads as it did. -/
def digestRotsUptoRow : OpenClaim := { program := "ytjfdkjgmjjfmcaa", sum := "2f8f1459ec73dd8667cdb0a0350d04ba3186ae01017614c8094f337356f87583", func := "cachet/cachetlaw19.DigestRots", spec := "digestRots", apart := false, narrowed := true }
def DigestRotsUptoSaid : Prop := digestRotsUptoRow.holds Try.pinned (OpenSpec.upto digestRotsSpec)

/-- 'cachetlaw19.DigestTurns', WHERE WHAT IT READS IS OF BULK AT MOST 1048576: true; the input reads as it did. -/
def digestTurnsUptoRow : OpenClaim := { program := "ytjfdkjgmjjfmcaa", sum := "2f8f1459ec73dd8667cdb0a0350d04ba3186ae01017614c8094f337356f87583", func := "cachet/cachetlaw19.DigestTurns", spec := "digestTurns", apart := false, narrowed := true }
def DigestTurnsUptoSaid : Prop := digestTurnsUptoRow.holds Try.pinned (OpenSpec.upto digestTurnsSpec)

/-- 'cachetlaw19.DigestAlike', WHERE WHAT IT READS IS OF BULK AT MOST 1048576: true; the input reads as it did. -/
def digestAlikeUptoRow : OpenClaim := { program := "ytjfdkjgmjjfmcaa", sum := "2f8f1459ec73dd8667cdb0a0350d04ba3186ae01017614c8094f337356f87583", func := "cachet/cachetlaw19.DigestAlike", spec := "digestAlike", apart := false, narrowed := true }
def DigestAlikeUptoSaid : Prop := digestAlikeUptoRow.holds Try.pinned (OpenSpec.upto digestAlikeSpec)

/-- 'cachetlaw19.DigestGaps', WHERE WHAT IT READS IS OF BULK AT MOST 1048576: true; the input reads as it did. -/
def digestGapsUptoRow : OpenClaim := { program := "ytjfdkjgmjjfmcaa", sum := "2f8f1459ec73dd8667cdb0a0350d04ba3186ae01017614c8094f337356f87583", func := "cachet/cachetlaw19.DigestGaps", spec := "digestGaps", apart := false, narrowed := true }
def DigestGapsUptoSaid : Prop := digestGapsUptoRow.holds Try.pinned (OpenSpec.upto digestGapsSpec)

/-- 'cachetlaw2.WireNums', WHERE WHAT IT READS IS OF BULK AT MOST 1048576: true; the input reads as it did. -/
def wireNumsUptoRow : OpenClaim := { program := "ytjfdkjgmjjfmcaa", sum := "2f8f1459ec73dd8667cdb0a0350d04ba3186ae01017614c8094f337356f87583", func := "cachet/cachetlaw2.WireNums", spec := "wireNums", apart := false, narrowed := true }
def WireNumsUptoSaid : Prop := wireNumsUptoRow.holds Try.pinned (OpenSpec.upto wireNumsSpec)

/-- 'cachetlaw2.WireShort', WHERE WHAT IT READS IS OF BULK AT MOST 1048576: true; the input reads as it did. -/
def wireShortUptoRow : OpenClaim := { program := "ytjfdkjgmjjfmcaa", sum := "2f8f1459ec73dd8667cdb0a0350d04ba3186ae01017614c8094f337356f87583", func := "cachet/cachetlaw2.WireShort", spec := "wireShort", apart := false, narrowed := true }
def WireShortUptoSaid : Prop := wireShortUptoRow.holds Try.pinned (OpenSpec.upto wireShortSpec)

/-- 'cachetlaw2.WireTexts', WHERE WHAT IT READS IS OF BULK AT MOST 1048576: true; the input reads as it did. -/
def wireTextsUptoRow : OpenClaim := { program := "ytjfdkjgmjjfmcaa", sum := "2f8f1459ec73dd8667cdb0a0350d04ba3186ae01017614c8094f337356f87583", func := "cachet/cachetlaw2.WireTexts", spec := "wireTexts", apart := false, narrowed := true }
def WireTextsUptoSaid : Prop := wireTextsUptoRow.holds Try.pinned (OpenSpec.upto wireTextsSpec)

/-- 'cachetlaw2.WireBack', WHERE WHAT IT READS IS OF BULK AT MOST 1048576: true; the input reads as it did. -/
def wireBackUptoRow : OpenClaim := { program := "ytjfdkjgmjjfmcaa", sum := "2f8f1459ec73dd8667cdb0a0350d04ba3186ae01017614c8094f337356f87583", func := "cachet/cachetlaw2.WireBack", spec := "wireBack", apart := false, narrowed := true }
def WireBackUptoSaid : Prop := wireBackUptoRow.holds Try.pinned (OpenSpec.upto wireBackSpec)

/-- 'cachetlaw2.WireCuts', WHERE WHAT IT READS IS OF BULK AT MOST 1048576: true; the input reads as it did. -/
def wireCutsUptoRow : OpenClaim := { program := "ytjfdkjgmjjfmcaa", sum := "2f8f1459ec73dd8667cdb0a0350d04ba3186ae01017614c8094f337356f87583", func := "cachet/cachetlaw2.WireCuts", spec := "wireCuts", apart := false, narrowed := true }
def WireCutsUptoSaid : Prop := wireCutsUptoRow.holds Try.pinned (OpenSpec.upto wireCutsSpec)

/-- 'cachetlaw3.PointBytes', WHERE WHAT IT READS IS OF BULK AT MOST 1048576: true; the input reads as it did. -/
def pointBytesUptoRow : OpenClaim := { program := "ytjfdkjgmjjfmcaa", sum := "2f8f1459ec73dd8667cdb0a0350d04ba3186ae01017614c8094f337356f87583", func := "cachet/cachetlaw3.PointBytes", spec := "pointBytes", inPlace := ["internal/abi.NoEscape"], unfollowed := true, recurses := true, apart := false, narrowed := true }
def PointBytesUptoSaid : Prop := pointBytesUptoRow.holds Try.pinned (OpenSpec.upto pointBytesSpec)

/-- 'cachetlaw3.PointNames', WHERE WHAT IT READS IS OF BULK AT MOST 1048576: true; the input reads as it did. -/
def pointNamesUptoRow : OpenClaim := { program := "ytjfdkjgmjjfmcaa", sum := "2f8f1459ec73dd8667cdb0a0350d04ba3186ae01017614c8094f337356f87583", func := "cachet/cachetlaw3.PointNames", spec := "pointNames", inPlace := ["internal/abi.NoEscape"], unfollowed := true, recurses := true, apart := false, narrowed := true }
def PointNamesUptoSaid : Prop := pointNamesUptoRow.holds Try.pinned (OpenSpec.upto pointNamesSpec)

/-- 'cachetlaw3.PointSmall', WHERE WHAT IT READS IS OF BULK AT MOST 1048576: true; the input reads as it did. -/
def pointSmallUptoRow : OpenClaim := { program := "ytjfdkjgmjjfmcaa", sum := "2f8f1459ec73dd8667cdb0a0350d04ba3186ae01017614c8094f337356f87583", func := "cachet/cachetlaw3.PointSmall", spec := "pointSmall", inPlace := ["internal/abi.NoEscape"], unfollowed := true, recurses := true, apart := false, narrowed := true }
def PointSmallUptoSaid : Prop := pointSmallUptoRow.holds Try.pinned (OpenSpec.upto pointSmallSpec)

/-- 'cachetlaw3.PointMany', WHERE WHAT IT READS IS OF BULK AT MOST 1048576: true; the input reads as it did. -/
def pointManyUptoRow : OpenClaim := { program := "ytjfdkjgmjjfmcaa", sum := "2f8f1459ec73dd8667cdb0a0350d04ba3186ae01017614c8094f337356f87583", func := "cachet/cachetlaw3.PointMany", spec := "pointMany", inPlace := ["internal/abi.NoEscape"], unfollowed := true, recurses := true, apart := false, narrowed := true }
def PointManyUptoSaid : Prop := pointManyUptoRow.holds Try.pinned (OpenSpec.upto pointManySpec)

/-- 'cachetlaw3.PointTails', WHERE WHAT IT READS IS OF BULK AT MOST 1048576: true; the input reads as it did. -/
def pointTailsUptoRow : OpenClaim := { program := "ytjfdkjgmjjfmcaa", sum := "2f8f1459ec73dd8667cdb0a0350d04ba3186ae01017614c8094f337356f87583", func := "cachet/cachetlaw3.PointTails", spec := "pointTails", inPlace := ["internal/abi.NoEscape"], unfollowed := true, recurses := true, apart := false, narrowed := true }
def PointTailsUptoSaid : Prop := pointTailsUptoRow.holds Try.pinned (OpenSpec.upto pointTailsSpec)

/-- 'cachetlaw3.PointForms', WHERE WHAT IT READS IS OF BULK AT MOST 1048576: true; the input reads as it did. -/
def pointFormsUptoRow : OpenClaim := { program := "ytjfdkjgmjjfmcaa", sum := "2f8f1459ec73dd8667cdb0a0350d04ba3186ae01017614c8094f337356f87583", func := "cachet/cachetlaw3.PointForms", spec := "pointForms", inPlace := ["internal/bytealg.abigen_runtime_cmpstring", "internal/abi.NoEscape"], unfollowed := true, recurses := true, apart := false, narrowed := true }
def PointFormsUptoSaid : Prop := pointFormsUptoRow.holds Try.pinned (OpenSpec.upto pointFormsSpec)

/-- 'cachetlaw3.PointRow', WHERE WHAT IT READS IS OF BULK AT MOST 1048576: true; the input reads as it did. -/
def pointRowUptoRow : OpenClaim := { program := "ytjfdkjgmjjfmcaa", sum := "2f8f1459ec73dd8667cdb0a0350d04ba3186ae01017614c8094f337356f87583", func := "cachet/cachetlaw3.PointRow", spec := "pointRow", inPlace := ["internal/abi.NoEscape", "internal/bytealg.abigen_runtime_cmpstring"], unfollowed := true, recurses := true, apart := false, narrowed := true }
def PointRowUptoSaid : Prop := pointRowUptoRow.holds Try.pinned (OpenSpec.upto pointRowSpec)

end Rows
end Go.Proofs.Ytjfdkjgmjjfmcaa
