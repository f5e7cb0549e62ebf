/-
  No cell of these rows narrows 'for every input' (looked for: loops, veiled, ifaces, maps, wideKeys, modest, calm, conditions, laid).
  DERIVED. THE GIVEN ROWS OF THIS SEAT. 10 by the template 'for every input the law returns true; each argument reads behind the call as it read before'; 0 by the template 'total and deterministic' (their statements: YthdbmgjlegpbaaaTotals.lean).
  GIVEN WITH THE SEED: the statements are not yours to turn. If you find one false, say at which input.
  Laid BY PROGRAM, IN A SANDBOX (cutbox-rows.mjs): the forced cells as the released guide's own fill.sh prints them over the translation 74ba43a333ee8a37… (all of the seat's roots in one cut). By AI agents, Wed Nov 11 2026. No macro, syntax, notation, axiom, sorry.
-/
import Derived.Test.YthdbmgjlegpbaaaChecked
import GoSem.Claim
import GoSem.ClaimJoined
import GoSem.ClaimMapViews
import Derived.JoinedTies
import Derived.KernelRfl
namespace Go.Proofs.Ythdbmgjlegpbaaa
/- THE CELL 'sum', in the pinned program and in every row, IS THE sha256 OF THE DUMP (.gsa) THAT YthdbmgjlegpbaaaProg.lean LOADS. Nothing in Lean hashes anything: it is a label: what it is worth is what the hold of that sum in a sandbox is worth. -/
noncomputable def Try.pinned : Pinned := { name := "ythdbmgjlegpbaaa", sum := "74ba43a333ee8a37f1d028f01bb8781120e7f5f6dd26c49a4e4a6fb29f79bf00", checked := Try.checked }
namespace Rows
def none {H : Type} : Left H := { results := [], args := [] }

/-- 'cachetlaw12.ColumnBack': WHATEVER THE INPUT: true; the input reads as it did. -/
def columnBackSpec : ChangeSpec := { name := "columnBack", fn := fun _ => fun
  | [d1, d2, d3] => { results := [.lit (.bool true)], args := [d1, d2, d3] }
  | _ => none }
def columnBackRow : OpenClaim := { program := "ythdbmgjlegpbaaa", sum := "74ba43a333ee8a37f1d028f01bb8781120e7f5f6dd26c49a4e4a6fb29f79bf00", func := "cachet/cachetlaw12.ColumnBack", spec := "columnBack", inPlace := ["internal/abi.NoEscape"], apart := false }
def ColumnBackSaid : Prop := columnBackRow.holds Try.pinned (OpenSpec.ofChange columnBackSpec)

/-- ITS FALSE NEIGHBOUR: 'it returns false'. Refute it at one input. -/
def columnBackWrong : ChangeSpec := { name := "columnBack", fn := fun _ => fun
  | [d1, d2, d3] => { results := [.lit (.bool false)], args := [d1, d2, d3] }
  | _ => none }
def ColumnBackWrongFalsely : Prop := columnBackRow.holds Try.pinned (OpenSpec.ofChange columnBackWrong)

/-- 'cachetlaw15.QueryLasts': WHATEVER THE INPUT: true; the input reads as it did. -/
def queryLastsSpec : ChangeSpec := { name := "queryLasts", fn := fun _ => fun
  | [d1, d2, d3, d4, d5] => { results := [.lit (.bool true)], args := [d1, d2, d3, d4, d5] }
  | _ => none }
def queryLastsRow : OpenClaim := { program := "ythdbmgjlegpbaaa", sum := "74ba43a333ee8a37f1d028f01bb8781120e7f5f6dd26c49a4e4a6fb29f79bf00", func := "cachet/cachetlaw15.QueryLasts", spec := "queryLasts", inPlace := ["internal/bytealg.abigen_runtime_cmpstring"], unfollowed := true, recurses := true, apart := false }
def QueryLastsSaid : Prop := queryLastsRow.holds Try.pinned (OpenSpec.ofChange queryLastsSpec)

/-- ITS FALSE NEIGHBOUR: 'it returns false'. Refute it at one input. -/
def queryLastsWrong : ChangeSpec := { name := "queryLasts", fn := fun _ => fun
  | [d1, d2, d3, d4, d5] => { results := [.lit (.bool false)], args := [d1, d2, d3, d4, d5] }
  | _ => none }
def QueryLastsWrongFalsely : Prop := queryLastsRow.holds Try.pinned (OpenSpec.ofChange queryLastsWrong)

/-- 'cachetlaw15.QueryAggregates': WHATEVER THE INPUT: true; the input reads as it did. -/
def queryAggregatesSpec : ChangeSpec := { name := "queryAggregates", fn := fun _ => fun
  | [d1, d2] => { results := [.lit (.bool true)], args := [d1, d2] }
  | _ => none }
def queryAggregatesRow : OpenClaim := { program := "ythdbmgjlegpbaaa", sum := "74ba43a333ee8a37f1d028f01bb8781120e7f5f6dd26c49a4e4a6fb29f79bf00", func := "cachet/cachetlaw15.QueryAggregates", spec := "queryAggregates", inPlace := ["internal/bytealg.abigen_runtime_cmpstring"], unfollowed := true, recurses := true, apart := false }
def QueryAggregatesSaid : Prop := queryAggregatesRow.holds Try.pinned (OpenSpec.ofChange queryAggregatesSpec)

/-- ITS FALSE NEIGHBOUR: 'it returns false'. Refute it at one input. -/
def queryAggregatesWrong : ChangeSpec := { name := "queryAggregates", fn := fun _ => fun
  | [d1, d2] => { results := [.lit (.bool false)], args := [d1, d2] }
  | _ => none }
def QueryAggregatesWrongFalsely : Prop := queryAggregatesRow.holds Try.pinned (OpenSpec.ofChange queryAggregatesWrong)

/-- 'cachetlaw15.QuerySums': WHATEVER THE INPUT: true; the input reads as it did. -/
def querySumsSpec : ChangeSpec := { name := "querySums", fn := fun _ => fun
  | [d] => { results := [.lit (.bool true)], args := [d] }
  | _ => none }
def querySumsRow : OpenClaim := { program := "ythdbmgjlegpbaaa", sum := "74ba43a333ee8a37f1d028f01bb8781120e7f5f6dd26c49a4e4a6fb29f79bf00", func := "cachet/cachetlaw15.QuerySums", spec := "querySums", inPlace := ["internal/bytealg.abigen_runtime_cmpstring"], unfollowed := true, recurses := true, apart := false }
def QuerySumsSaid : Prop := querySumsRow.holds Try.pinned (OpenSpec.ofChange querySumsSpec)

/-- ITS FALSE NEIGHBOUR: 'it returns false'. Refute it at one input. -/
def querySumsWrong : ChangeSpec := { name := "querySums", fn := fun _ => fun
  | [d] => { results := [.lit (.bool false)], args := [d] }
  | _ => none }
def QuerySumsWrongFalsely : Prop := querySumsRow.holds Try.pinned (OpenSpec.ofChange querySumsWrong)

/-- 'cachetlaw15.QueryMerges': WHATEVER THE INPUT: true; the input reads as it did. -/
def queryMergesSpec : ChangeSpec := { name := "queryMerges", fn := fun _ => fun
  | [d1, d2] => { results := [.lit (.bool true)], args := [d1, d2] }
  | _ => none }
def queryMergesRow : OpenClaim := { program := "ythdbmgjlegpbaaa", sum := "74ba43a333ee8a37f1d028f01bb8781120e7f5f6dd26c49a4e4a6fb29f79bf00", func := "cachet/cachetlaw15.QueryMerges", spec := "queryMerges", inPlace := ["internal/bytealg.abigen_runtime_cmpstring"], unfollowed := true, recurses := true, apart := false }
def QueryMergesSaid : Prop := queryMergesRow.holds Try.pinned (OpenSpec.ofChange queryMergesSpec)

/-- ITS FALSE NEIGHBOUR: 'it returns false'. Refute it at one input. -/
def queryMergesWrong : ChangeSpec := { name := "queryMerges", fn := fun _ => fun
  | [d1, d2] => { results := [.lit (.bool false)], args := [d1, d2] }
  | _ => none }
def QueryMergesWrongFalsely : Prop := queryMergesRow.holds Try.pinned (OpenSpec.ofChange queryMergesWrong)

/-- 'cachetlaw15.QueryRanges': WHATEVER THE INPUT: true; the input reads as it did. -/
def queryRangesSpec : ChangeSpec := { name := "queryRanges", fn := fun _ => fun
  | [d1, d2, d3, d4, d5, d6] => { results := [.lit (.bool true)], args := [d1, d2, d3, d4, d5, d6] }
  | _ => none }
def queryRangesRow : OpenClaim := { program := "ythdbmgjlegpbaaa", sum := "74ba43a333ee8a37f1d028f01bb8781120e7f5f6dd26c49a4e4a6fb29f79bf00", func := "cachet/cachetlaw15.QueryRanges", spec := "queryRanges", inPlace := ["internal/bytealg.abigen_runtime_cmpstring"], unfollowed := true, recurses := true, apart := false }
def QueryRangesSaid : Prop := queryRangesRow.holds Try.pinned (OpenSpec.ofChange queryRangesSpec)

/-- ITS FALSE NEIGHBOUR: 'it returns false'. Refute it at one input. -/
def queryRangesWrong : ChangeSpec := { name := "queryRanges", fn := fun _ => fun
  | [d1, d2, d3, d4, d5, d6] => { results := [.lit (.bool false)], args := [d1, d2, d3, d4, d5, d6] }
  | _ => none }
def QueryRangesWrongFalsely : Prop := queryRangesRow.holds Try.pinned (OpenSpec.ofChange queryRangesWrong)

/-- 'cachetlaw15.QueryAlike': WHATEVER THE INPUT: true; the input reads as it did. -/
def queryAlikeSpec : ChangeSpec := { name := "queryAlike", fn := fun _ => fun
  | [d1, d2, d3, d4] => { results := [.lit (.bool true)], args := [d1, d2, d3, d4] }
  | _ => none }
def queryAlikeRow : OpenClaim := { program := "ythdbmgjlegpbaaa", sum := "74ba43a333ee8a37f1d028f01bb8781120e7f5f6dd26c49a4e4a6fb29f79bf00", func := "cachet/cachetlaw15.QueryAlike", spec := "queryAlike", inPlace := ["internal/bytealg.abigen_runtime_cmpstring"], unfollowed := true, recurses := true, apart := false }
def QueryAlikeSaid : Prop := queryAlikeRow.holds Try.pinned (OpenSpec.ofChange queryAlikeSpec)

/-- ITS FALSE NEIGHBOUR: 'it returns false'. Refute it at one input. -/
def queryAlikeWrong : ChangeSpec := { name := "queryAlike", fn := fun _ => fun
  | [d1, d2, d3, d4] => { results := [.lit (.bool false)], args := [d1, d2, d3, d4] }
  | _ => none }
def QueryAlikeWrongFalsely : Prop := queryAlikeRow.holds Try.pinned (OpenSpec.ofChange queryAlikeWrong)

/-- 'cachetlaw15.QueryNewest': WHATEVER THE INPUT: true; the input reads as it did. -/
def queryNewestSpec : ChangeSpec := { name := "queryNewest", fn := fun _ => fun
  | [d1, d2] => { results := [.lit (.bool true)], args := [d1, d2] }
  | _ => none }
def queryNewestRow : OpenClaim := { program := "ythdbmgjlegpbaaa", sum := "74ba43a333ee8a37f1d028f01bb8781120e7f5f6dd26c49a4e4a6fb29f79bf00", func := "cachet/cachetlaw15.QueryNewest", spec := "queryNewest", inPlace := ["internal/bytealg.abigen_runtime_cmpstring"], unfollowed := true, recurses := true, apart := false }
def QueryNewestSaid : Prop := queryNewestRow.holds Try.pinned (OpenSpec.ofChange queryNewestSpec)

/-- ITS FALSE NEIGHBOUR: 'it returns false'. Refute it at one input. -/
def queryNewestWrong : ChangeSpec := { name := "queryNewest", fn := fun _ => fun
  | [d1, d2] => { results := [.lit (.bool false)], args := [d1, d2] }
  | _ => none }
def QueryNewestWrongFalsely : Prop := queryNewestRow.holds Try.pinned (OpenSpec.ofChange queryNewestWrong)

/-- 'cachetlaw15.QueryBad': WHATEVER THE INPUT: true; the input reads as it did. -/
def queryBadSpec : ChangeSpec := { name := "queryBad", fn := fun _ => fun
  | [d1, d2] => { results := [.lit (.bool true)], args := [d1, d2] }
  | _ => none }
def queryBadRow : OpenClaim := { program := "ythdbmgjlegpbaaa", sum := "74ba43a333ee8a37f1d028f01bb8781120e7f5f6dd26c49a4e4a6fb29f79bf00", func := "cachet/cachetlaw15.QueryBad", spec := "queryBad", inPlace := ["internal/bytealg.abigen_runtime_cmpstring"], unfollowed := true, recurses := true, apart := false }
def QueryBadSaid : Prop := queryBadRow.holds Try.pinned (OpenSpec.ofChange queryBadSpec)

/-- ITS FALSE NEIGHBOUR: 'it returns false'. Refute it at one input. -/
def queryBadWrong : ChangeSpec := { name := "queryBad", fn := fun _ => fun
  | [d1, d2] => { results := [.lit (.bool false)], args := [d1, d2] }
  | _ => none }
def QueryBadWrongFalsely : Prop := queryBadRow.holds Try.pinned (OpenSpec.ofChange queryBadWrong)

/-- 'cachetlaw15.QueryBounds': WHATEVER THE INPUT: true; the input reads as it did. -/
def queryBoundsSpec : ChangeSpec := { name := "queryBounds", fn := fun _ => fun
  | [d1, d2, d3] => { results := [.lit (.bool true)], args := [d1, d2, d3] }
  | _ => none }
def queryBoundsRow : OpenClaim := { program := "ythdbmgjlegpbaaa", sum := "74ba43a333ee8a37f1d028f01bb8781120e7f5f6dd26c49a4e4a6fb29f79bf00", func := "cachet/cachetlaw15.QueryBounds", spec := "queryBounds", inPlace := ["internal/bytealg.abigen_runtime_cmpstring"], unfollowed := true, recurses := true, apart := false }
def QueryBoundsSaid : Prop := queryBoundsRow.holds Try.pinned (OpenSpec.ofChange queryBoundsSpec)

/-- ITS FALSE NEIGHBOUR: 'it returns false'. Refute it at one input. -/
def queryBoundsWrong : ChangeSpec := { name := "queryBounds", fn := fun _ => fun
  | [d1, d2, d3] => { results := [.lit (.bool false)], args := [d1, d2, d3] }
  | _ => none }
def QueryBoundsWrongFalsely : Prop := queryBoundsRow.holds Try.pinned (OpenSpec.ofChange queryBoundsWrong)

/- THE SECOND FORM. 'bulk': how many values and letters a reading holds, each counted each time it is reached (what is shared counts as often as it is met; a slice's spare places count too). A statement '..UptoSaid' is the law's where the arguments, and the package variables that the reading takes, are together of bulk at most 1048576: NARROWER than '..Said'. Prove '..Said' where nothing that the law and all that it calls make is longer than what came in: it says more and counts as full. Else prove '..UptoSaid'. A law counts once. -/
mutual
def uptoBulk {H : Type} : DataW H → Nat
  | .lit (.string bytes) => bytes.length + 1
  | .lit _ => 1
  | .nil => 1
  | .ptr d => uptoBulk d + 1
  | .slice elems spare => uptoBulkAll elems + uptoBulkAll spare + 1
  | .agg parts => uptoBulkAll parts + 1
  | .iface _ d => uptoBulk d + 1
  | .map entries => uptoBulkEntries entries + 1
  | .held _ => 1
def uptoBulkAll {H : Type} : List (DataW H) → Nat
  | [] => 0
  | d :: r => uptoBulk d + uptoBulkAll r
def uptoBulkEntries {H : Type} : List (Lit × DataW H) → Nat
  | [] => 0
  | x :: r => uptoBulkEntry x + uptoBulkEntries r
def uptoBulkEntry {H : Type} : Lit × DataW H → Nat
  | (.string bytes, d) => bytes.length + uptoBulk d + 1
  | (_, d) => uptoBulk d + 1
 end
def uptoSmall : (H : Type) → List (DataW H) → Bool := fun _ ds => decide (uptoBulkAll ds ≤ 1048576)
def OpenSpec.upto (s : _root_.Go.ChangeSpec) : _root_.Go.OpenSpec := { _root_.Go.OpenSpec.ofChange s with cond := some uptoSmall }

/-- 'cachetlaw12.ColumnBack', WHERE WHAT IT READS IS OF BULK AT MOST 1048576: true; the input reads as it did. -/
def columnBackUptoRow : OpenClaim := { program := "ythdbmgjlegpbaaa", sum := "74ba43a333ee8a37f1d028f01bb8781120e7f5f6dd26c49a4e4a6fb29f79bf00", func := "cachet/cachetlaw12.ColumnBack", spec := "columnBack", inPlace := ["internal/abi.NoEscape"], apart := false, narrowed := true }
def ColumnBackUptoSaid : Prop := columnBackUptoRow.holds Try.pinned (OpenSpec.upto columnBackSpec)

/-- 'cachetlaw15.QueryLasts', WHERE WHAT IT READS IS OF BULK AT MOST 1048576: true; the input reads as it did. -/
def queryLastsUptoRow : OpenClaim := { program := "ythdbmgjlegpbaaa", sum := "74ba43a333ee8a37f1d028f01bb8781120e7f5f6dd26c49a4e4a6fb29f79bf00", func := "cachet/cachetlaw15.QueryLasts", spec := "queryLasts", inPlace := ["internal/bytealg.abigen_runtime_cmpstring"], unfollowed := true, recurses := true, apart := false, narrowed := true }
def QueryLastsUptoSaid : Prop := queryLastsUptoRow.holds Try.pinned (OpenSpec.upto queryLastsSpec)

/-- 'cachetlaw15.QueryAggregates', WHERE WHAT IT READS IS OF BULK AT MOST 1048576: true; the input reads as it did. -/
def queryAggregatesUptoRow : OpenClaim := { program := "ythdbmgjlegpbaaa", sum := "74ba43a333ee8a37f1d028f01bb8781120e7f5f6dd26c49a4e4a6fb29f79bf00", func := "cachet/cachetlaw15.QueryAggregates", spec := "queryAggregates", inPlace := ["internal/bytealg.abigen_runtime_cmpstring"], unfollowed := true, recurses := true, apart := false, narrowed := true }
def QueryAggregatesUptoSaid : Prop := queryAggregatesUptoRow.holds Try.pinned (OpenSpec.upto queryAggregatesSpec)

/-- 'cachetlaw15.QuerySums', WHERE WHAT IT READS IS OF BULK AT MOST 1048576: true; the input reads as it did. -/
def querySumsUptoRow : OpenClaim := { program := "ythdbmgjlegpbaaa", sum := "74ba43a333ee8a37f1d028f01bb8781120e7f5f6dd26c49a4e4a6fb29f79bf00", func := "cachet/cachetlaw15.QuerySums", spec := "querySums", inPlace := ["internal/bytealg.abigen_runtime_cmpstring"], unfollowed := true, recurses := true, apart := false, narrowed := true }
def QuerySumsUptoSaid : Prop := querySumsUptoRow.holds Try.pinned (OpenSpec.upto querySumsSpec)

/-- 'cachetlaw15.QueryMerges', WHERE WHAT IT READS IS OF BULK AT MOST 1048576: true; the input reads as it did. -/
def queryMergesUptoRow : OpenClaim := { program := "ythdbmgjlegpbaaa", sum := "74ba43a333ee8a37f1d028f01bb8781120e7f5f6dd26c49a4e4a6fb29f79bf00", func := "cachet/cachetlaw15.QueryMerges", spec := "queryMerges", inPlace := ["internal/bytealg.abigen_runtime_cmpstring"], unfollowed := true, recurses := true, apart := false, narrowed := true }
def QueryMergesUptoSaid : Prop := queryMergesUptoRow.holds Try.pinned (OpenSpec.upto queryMergesSpec)

/-- 'cachetlaw15.QueryRanges', WHERE WHAT IT READS IS OF BULK AT MOST 1048576: true; the input reads as it did. -/
def queryRangesUptoRow : OpenClaim := { program := "ythdbmgjlegpbaaa", sum := "74ba43a333ee8a37f1d028f01bb8781120e7f5f6dd26c49a4e4a6fb29f79bf00", func := "cachet/cachetlaw15.QueryRanges", spec := "queryRanges", inPlace := ["internal/bytealg.abigen_runtime_cmpstring"], unfollowed := true, recurses := true, apart := false, narrowed := true }
def QueryRangesUptoSaid : Prop := queryRangesUptoRow.holds Try.pinned (OpenSpec.upto queryRangesSpec)

/-- 'cachetlaw15.QueryAlike', WHERE WHAT IT READS IS OF BULK AT MOST 1048576: true; the input reads as it did. -/
def queryAlikeUptoRow : OpenClaim := { program := "ythdbmgjlegpbaaa", sum := "74ba43a333ee8a37f1d028f01bb8781120e7f5f6dd26c49a4e4a6fb29f79bf00", func := "cachet/cachetlaw15.QueryAlike", spec := "queryAlike", inPlace := ["internal/bytealg.abigen_runtime_cmpstring"], unfollowed := true, recurses := true, apart := false, narrowed := true }
def QueryAlikeUptoSaid : Prop := queryAlikeUptoRow.holds Try.pinned (OpenSpec.upto queryAlikeSpec)

/-- 'cachetlaw15.QueryNewest', WHERE WHAT IT READS IS OF BULK AT MOST 1048576: true; the input reads as it did. -/
def queryNewestUptoRow : OpenClaim := { program := "ythdbmgjlegpbaaa", sum := "74ba43a333ee8a37f1d028f01bb8781120e7f5f6dd26c49a4e4a6fb29f79bf00", func := "cachet/cachetlaw15.QueryNewest", spec := "queryNewest", inPlace := ["internal/bytealg.abigen_runtime_cmpstring"], unfollowed := true, recurses := true, apart := false, narrowed := true }
def QueryNewestUptoSaid : Prop := queryNewestUptoRow.holds Try.pinned (OpenSpec.upto queryNewestSpec)

/-- 'cachetlaw15.QueryBad', WHERE WHAT IT READS IS OF BULK AT MOST 1048576: true; the input reads as it did. -/
def queryBadUptoRow : OpenClaim := { program := "ythdbmgjlegpbaaa", sum := "74ba43a333ee8a37f1d028f01bb8781120e7f5f6dd26c49a4e4a6fb29f79bf00", func := "cachet/cachetlaw15.QueryBad", spec := "queryBad", inPlace := ["internal/bytealg.abigen_runtime_cmpstring"], unfollowed := true, recurses := true, apart := false, narrowed := true }
def QueryBadUptoSaid : Prop := queryBadUptoRow.holds Try.pinned (OpenSpec.upto queryBadSpec)

/-- 'cachetlaw15.QueryBounds', WHERE WHAT IT READS IS OF BULK AT MOST 1048576: true; the input reads as it did. -/
def queryBoundsUptoRow : OpenClaim := { program := "ythdbmgjlegpbaaa", sum := "74ba43a333ee8a37f1d028f01bb8781120e7f5f6dd26c49a4e4a6fb29f79bf00", func := "cachet/cachetlaw15.QueryBounds", spec := "queryBounds", inPlace := ["internal/bytealg.abigen_runtime_cmpstring"], unfollowed := true, recurses := true, apart := false, narrowed := true }
def QueryBoundsUptoSaid : Prop := queryBoundsUptoRow.holds Try.pinned (OpenSpec.upto queryBoundsSpec)

end Rows
end Go.Proofs.Ythdbmgjlegpbaaa
