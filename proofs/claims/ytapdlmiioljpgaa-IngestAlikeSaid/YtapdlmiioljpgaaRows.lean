/-
  No cell of these rows narrows 'for every input' (looked for: loops, veiled, ifaces, maps, wideKeys, modest, calm, conditions, laid).
  DERIVED. THE GIVEN ROWS OF THIS SEAT. 11 by the template 'for every input the law returns true; each argument reads behind the call as it read before'; 0 by the template 'total and deterministic' (their statements: YtapdlmiioljpgaaTotals.lean).
  GIVEN WITH THE SEED: the statements are not yours to turn. If you find one false, say at which input.
  Laid BY PROGRAM, IN A SANDBOX (cutbox-rows.mjs): the forced cells as the released guide's own fill.sh prints them over the translation 70f6bbbab5fd3946… (all of the seat's roots in one cut). By AI agents, Wed Nov 11 2026. No macro, syntax, notation, axiom, sorry.
-/
import Derived.Test.YtapdlmiioljpgaaChecked
import GoSem.Claim
import GoSem.ClaimJoined
import GoSem.ClaimMapViews
import Derived.JoinedTies
import Derived.KernelRfl
namespace Go.Proofs.Ytapdlmiioljpgaa
/- THE CELL 'sum', in the pinned program and in every row, IS THE sha256 OF THE DUMP (.gsa) THAT YtapdlmiioljpgaaProg.lean LOADS. Nothing in Lean hashes anything: it is a label: what it is worth is what the hold of that sum in a sandbox is worth. -/
noncomputable def Try.pinned : Pinned := { name := "ytapdlmiioljpgaa", sum := "70f6bbbab5fd394666315ea2e62225e7c0e61247aed333756a50c8a1ef2db430", checked := Try.checked }
namespace Rows
def none {H : Type} : Left H := { results := [], args := [] }

/-- 'cachetlaw13.SegmentPuts': WHATEVER THE INPUT: true; the input reads as it did. -/
def segmentPutsSpec : ChangeSpec := { name := "segmentPuts", fn := fun _ => fun
  | [d1, d2] => { results := [.lit (.bool true)], args := [d1, d2] }
  | _ => none }
def segmentPutsRow : OpenClaim := { program := "ytapdlmiioljpgaa", sum := "70f6bbbab5fd394666315ea2e62225e7c0e61247aed333756a50c8a1ef2db430", func := "cachet/cachetlaw13.SegmentPuts", spec := "segmentPuts", inPlace := ["internal/bytealg.abigen_runtime_cmpstring", "internal/abi.NoEscape"], apart := false }
def SegmentPutsSaid : Prop := segmentPutsRow.holds Try.pinned (OpenSpec.ofChange segmentPutsSpec)

/-- ITS FALSE NEIGHBOUR: 'it returns false'. Refute it at one input. -/
def segmentPutsWrong : ChangeSpec := { name := "segmentPuts", fn := fun _ => fun
  | [d1, d2] => { results := [.lit (.bool false)], args := [d1, d2] }
  | _ => none }
def SegmentPutsWrongFalsely : Prop := segmentPutsRow.holds Try.pinned (OpenSpec.ofChange segmentPutsWrong)

/-- 'cachetlaw13.SegmentGets': WHATEVER THE INPUT: true; the input reads as it did. -/
def segmentGetsSpec : ChangeSpec := { name := "segmentGets", fn := fun _ => fun
  | [d] => { results := [.lit (.bool true)], args := [d] }
  | _ => none }
def segmentGetsRow : OpenClaim := { program := "ytapdlmiioljpgaa", sum := "70f6bbbab5fd394666315ea2e62225e7c0e61247aed333756a50c8a1ef2db430", func := "cachet/cachetlaw13.SegmentGets", spec := "segmentGets", inPlace := ["internal/bytealg.abigen_runtime_cmpstring", "internal/abi.NoEscape"], apart := false }
def SegmentGetsSaid : Prop := segmentGetsRow.holds Try.pinned (OpenSpec.ofChange segmentGetsSpec)

/-- ITS FALSE NEIGHBOUR: 'it returns false'. Refute it at one input. -/
def segmentGetsWrong : ChangeSpec := { name := "segmentGets", fn := fun _ => fun
  | [d] => { results := [.lit (.bool false)], args := [d] }
  | _ => none }
def SegmentGetsWrongFalsely : Prop := segmentGetsRow.holds Try.pinned (OpenSpec.ofChange segmentGetsWrong)

/-- 'cachetlaw10.SessionApplies': WHATEVER THE INPUT: true; the input reads as it did. -/
def sessionAppliesSpec : ChangeSpec := { name := "sessionApplies", fn := fun _ => fun
  | [d1, d2, d3] => { results := [.lit (.bool true)], args := [d1, d2, d3] }
  | _ => none }
def sessionAppliesRow : OpenClaim := { program := "ytapdlmiioljpgaa", sum := "70f6bbbab5fd394666315ea2e62225e7c0e61247aed333756a50c8a1ef2db430", func := "cachet/cachetlaw10.SessionApplies", spec := "sessionApplies", inPlace := ["slices.overlaps[cachet/api.Row]", "internal/abi.NoEscape"], unfollowed := true, recurses := true, apart := false }
def SessionAppliesSaid : Prop := sessionAppliesRow.holds Try.pinned (OpenSpec.ofChange sessionAppliesSpec)

/-- ITS FALSE NEIGHBOUR: 'it returns false'. Refute it at one input. -/
def sessionAppliesWrong : ChangeSpec := { name := "sessionApplies", fn := fun _ => fun
  | [d1, d2, d3] => { results := [.lit (.bool false)], args := [d1, d2, d3] }
  | _ => none }
def SessionAppliesWrongFalsely : Prop := sessionAppliesRow.holds Try.pinned (OpenSpec.ofChange sessionAppliesWrong)

/-- 'cachetlaw10.SessionTexts': WHATEVER THE INPUT: true; the input reads as it did. -/
def sessionTextsSpec : ChangeSpec := { name := "sessionTexts", fn := fun _ => fun
  | [d1, d2] => { results := [.lit (.bool true)], args := [d1, d2] }
  | _ => none }
def sessionTextsRow : OpenClaim := { program := "ytapdlmiioljpgaa", sum := "70f6bbbab5fd394666315ea2e62225e7c0e61247aed333756a50c8a1ef2db430", func := "cachet/cachetlaw10.SessionTexts", spec := "sessionTexts", inPlace := ["internal/abi.NoEscape", "slices.overlaps[cachet/api.Row]"], unfollowed := true, recurses := true, apart := false }
def SessionTextsSaid : Prop := sessionTextsRow.holds Try.pinned (OpenSpec.ofChange sessionTextsSpec)

/-- ITS FALSE NEIGHBOUR: 'it returns false'. Refute it at one input. -/
def sessionTextsWrong : ChangeSpec := { name := "sessionTexts", fn := fun _ => fun
  | [d1, d2] => { results := [.lit (.bool false)], args := [d1, d2] }
  | _ => none }
def SessionTextsWrongFalsely : Prop := sessionTextsRow.holds Try.pinned (OpenSpec.ofChange sessionTextsWrong)

/-- 'cachetlaw11.IngestCopies': WHATEVER THE INPUT: true; the input reads as it did. -/
def ingestCopiesSpec : ChangeSpec := { name := "ingestCopies", fn := fun _ => fun
  | [d1, d2] => { results := [.lit (.bool true)], args := [d1, d2] }
  | _ => none }
def ingestCopiesRow : OpenClaim := { program := "ytapdlmiioljpgaa", sum := "70f6bbbab5fd394666315ea2e62225e7c0e61247aed333756a50c8a1ef2db430", func := "cachet/cachetlaw11.IngestCopies", spec := "ingestCopies", inPlace := ["slices.overlaps[cachet/api.Row]", "internal/bytealg.abigen_runtime_cmpstring", "slices.overlaps[cachet/api.Point]", "internal/abi.NoEscape"], unfollowed := true, recurses := true, apart := false }
def IngestCopiesSaid : Prop := ingestCopiesRow.holds Try.pinned (OpenSpec.ofChange ingestCopiesSpec)

/-- ITS FALSE NEIGHBOUR: 'it returns false'. Refute it at one input. -/
def ingestCopiesWrong : ChangeSpec := { name := "ingestCopies", fn := fun _ => fun
  | [d1, d2] => { results := [.lit (.bool false)], args := [d1, d2] }
  | _ => none }
def IngestCopiesWrongFalsely : Prop := ingestCopiesRow.holds Try.pinned (OpenSpec.ofChange ingestCopiesWrong)

/-- 'cachetlaw11.IngestAlike': WHATEVER THE INPUT: true; the input reads as it did. -/
def ingestAlikeSpec : ChangeSpec := { name := "ingestAlike", fn := fun _ => fun
  | [d] => { results := [.lit (.bool true)], args := [d] }
  | _ => none }
def ingestAlikeRow : OpenClaim := { program := "ytapdlmiioljpgaa", sum := "70f6bbbab5fd394666315ea2e62225e7c0e61247aed333756a50c8a1ef2db430", func := "cachet/cachetlaw11.IngestAlike", spec := "ingestAlike", inPlace := ["slices.overlaps[cachet/api.Row]", "internal/bytealg.abigen_runtime_cmpstring", "slices.overlaps[cachet/api.Point]", "internal/abi.NoEscape"], unfollowed := true, recurses := true, apart := false }
def IngestAlikeSaid : Prop := ingestAlikeRow.holds Try.pinned (OpenSpec.ofChange ingestAlikeSpec)

/-- ITS FALSE NEIGHBOUR: 'it returns false'. Refute it at one input. -/
def ingestAlikeWrong : ChangeSpec := { name := "ingestAlike", fn := fun _ => fun
  | [d] => { results := [.lit (.bool false)], args := [d] }
  | _ => none }
def IngestAlikeWrongFalsely : Prop := ingestAlikeRow.holds Try.pinned (OpenSpec.ofChange ingestAlikeWrong)

/-- 'cachetlaw11.IngestSnaps': WHATEVER THE INPUT: true; the input reads as it did. -/
def ingestSnapsSpec : ChangeSpec := { name := "ingestSnaps", fn := fun _ => fun
  | [d] => { results := [.lit (.bool true)], args := [d] }
  | _ => none }
def ingestSnapsRow : OpenClaim := { program := "ytapdlmiioljpgaa", sum := "70f6bbbab5fd394666315ea2e62225e7c0e61247aed333756a50c8a1ef2db430", func := "cachet/cachetlaw11.IngestSnaps", spec := "ingestSnaps", inPlace := ["slices.overlaps[cachet/api.Row]", "internal/bytealg.abigen_runtime_cmpstring", "slices.overlaps[cachet/api.Point]", "internal/abi.NoEscape"], unfollowed := true, recurses := true, apart := false }
def IngestSnapsSaid : Prop := ingestSnapsRow.holds Try.pinned (OpenSpec.ofChange ingestSnapsSpec)

/-- ITS FALSE NEIGHBOUR: 'it returns false'. Refute it at one input. -/
def ingestSnapsWrong : ChangeSpec := { name := "ingestSnaps", fn := fun _ => fun
  | [d] => { results := [.lit (.bool false)], args := [d] }
  | _ => none }
def IngestSnapsWrongFalsely : Prop := ingestSnapsRow.holds Try.pinned (OpenSpec.ofChange ingestSnapsWrong)

/-- 'cachetlaw14.SealRanges': WHATEVER THE INPUT: true; the input reads as it did. -/
def sealRangesSpec : ChangeSpec := { name := "sealRanges", fn := fun _ => fun
  | [d1, d2] => { results := [.lit (.bool true)], args := [d1, d2] }
  | _ => none }
def sealRangesRow : OpenClaim := { program := "ytapdlmiioljpgaa", sum := "70f6bbbab5fd394666315ea2e62225e7c0e61247aed333756a50c8a1ef2db430", func := "cachet/cachetlaw14.SealRanges", spec := "sealRanges", inPlace := ["slices.overlaps[cachet/api.Row]", "internal/bytealg.abigen_runtime_cmpstring", "slices.overlaps[cachet/api.Point]", "internal/abi.NoEscape"], unfollowed := true, recurses := true, apart := false }
def SealRangesSaid : Prop := sealRangesRow.holds Try.pinned (OpenSpec.ofChange sealRangesSpec)

/-- ITS FALSE NEIGHBOUR: 'it returns false'. Refute it at one input. -/
def sealRangesWrong : ChangeSpec := { name := "sealRanges", fn := fun _ => fun
  | [d1, d2] => { results := [.lit (.bool false)], args := [d1, d2] }
  | _ => none }
def SealRangesWrongFalsely : Prop := sealRangesRow.holds Try.pinned (OpenSpec.ofChange sealRangesWrong)

/-- 'cachetlaw14.SealLater': WHATEVER THE INPUT: true; the input reads as it did. -/
def sealLaterSpec : ChangeSpec := { name := "sealLater", fn := fun _ => fun
  | [d1, d2] => { results := [.lit (.bool true)], args := [d1, d2] }
  | _ => none }
def sealLaterRow : OpenClaim := { program := "ytapdlmiioljpgaa", sum := "70f6bbbab5fd394666315ea2e62225e7c0e61247aed333756a50c8a1ef2db430", func := "cachet/cachetlaw14.SealLater", spec := "sealLater", inPlace := ["slices.overlaps[cachet/api.Row]", "internal/bytealg.abigen_runtime_cmpstring", "slices.overlaps[cachet/api.Point]", "internal/abi.NoEscape"], unfollowed := true, recurses := true, apart := false }
def SealLaterSaid : Prop := sealLaterRow.holds Try.pinned (OpenSpec.ofChange sealLaterSpec)

/-- ITS FALSE NEIGHBOUR: 'it returns false'. Refute it at one input. -/
def sealLaterWrong : ChangeSpec := { name := "sealLater", fn := fun _ => fun
  | [d1, d2] => { results := [.lit (.bool false)], args := [d1, d2] }
  | _ => none }
def SealLaterWrongFalsely : Prop := sealLaterRow.holds Try.pinned (OpenSpec.ofChange sealLaterWrong)

/-- 'cachetlaw14.SealDigests': WHATEVER THE INPUT: true; the input reads as it did. -/
def sealDigestsSpec : ChangeSpec := { name := "sealDigests", fn := fun _ => fun
  | [d1, d2] => { results := [.lit (.bool true)], args := [d1, d2] }
  | _ => none }
def sealDigestsRow : OpenClaim := { program := "ytapdlmiioljpgaa", sum := "70f6bbbab5fd394666315ea2e62225e7c0e61247aed333756a50c8a1ef2db430", func := "cachet/cachetlaw14.SealDigests", spec := "sealDigests", inPlace := ["slices.overlaps[cachet/api.Row]", "internal/bytealg.abigen_runtime_cmpstring", "slices.overlaps[cachet/api.Point]", "internal/abi.NoEscape"], unfollowed := true, recurses := true, apart := false }
def SealDigestsSaid : Prop := sealDigestsRow.holds Try.pinned (OpenSpec.ofChange sealDigestsSpec)

/-- ITS FALSE NEIGHBOUR: 'it returns false'. Refute it at one input. -/
def sealDigestsWrong : ChangeSpec := { name := "sealDigests", fn := fun _ => fun
  | [d1, d2] => { results := [.lit (.bool false)], args := [d1, d2] }
  | _ => none }
def SealDigestsWrongFalsely : Prop := sealDigestsRow.holds Try.pinned (OpenSpec.ofChange sealDigestsWrong)

/-- 'cachetlaw14.SealAlike': WHATEVER THE INPUT: true; the input reads as it did. -/
def sealAlikeSpec : ChangeSpec := { name := "sealAlike", fn := fun _ => fun
  | [d1, d2] => { results := [.lit (.bool true)], args := [d1, d2] }
  | _ => none }
def sealAlikeRow : OpenClaim := { program := "ytapdlmiioljpgaa", sum := "70f6bbbab5fd394666315ea2e62225e7c0e61247aed333756a50c8a1ef2db430", func := "cachet/cachetlaw14.SealAlike", spec := "sealAlike", inPlace := ["slices.overlaps[cachet/api.Row]", "internal/bytealg.abigen_runtime_cmpstring", "slices.overlaps[cachet/api.Point]", "internal/abi.NoEscape"], unfollowed := true, recurses := true, apart := false }
def SealAlikeSaid : Prop := sealAlikeRow.holds Try.pinned (OpenSpec.ofChange sealAlikeSpec)

/-- ITS FALSE NEIGHBOUR: 'it returns false'. Refute it at one input. -/
def sealAlikeWrong : ChangeSpec := { name := "sealAlike", fn := fun _ => fun
  | [d1, d2] => { results := [.lit (.bool false)], args := [d1, d2] }
  | _ => none }
def SealAlikeWrongFalsely : Prop := sealAlikeRow.holds Try.pinned (OpenSpec.ofChange sealAlikeWrong)

/- THE SECOND FORM. 'bulk': how many values and letters a reading holds, each counted each time it is reached (what is shared counts as often as it is met; a slice's spare places count too). A statement '..UptoSaid' is the law's where the arguments, and the package variables that the reading takes, are together of bulk at most 1048576: NARROWER than '..Said'. Prove '..Said' where nothing that the law and all that it calls make is longer than what came in: it says more and counts as full. Else prove '..UptoSaid'. A law counts once. -/
mutual
def uptoBulk {H : Type} : DataW H → Nat
  | .lit (.string bytes) => bytes.length + 1
  | .lit _ => 1
  | .nil => 1
  | .ptr d => uptoBulk d + 1
  | .slice elems spare => uptoBulkAll elems + uptoBulkAll spare + 1
  | .agg parts => uptoBulkAll parts + 1
  | .iface _ d => uptoBulk d + 1
  | .map entries => uptoBulkEntries entries + 1
  | .held _ => 1
def uptoBulkAll {H : Type} : List (DataW H) → Nat
  | [] => 0
  | d :: r => uptoBulk d + uptoBulkAll r
def uptoBulkEntries {H : Type} : List (Lit × DataW H) → Nat
  | [] => 0
  | x :: r => uptoBulkEntry x + uptoBulkEntries r
def uptoBulkEntry {H : Type} : Lit × DataW H → Nat
  | (.string bytes, d) => bytes.length + uptoBulk d + 1
  | (_, d) => uptoBulk d + 1
 end
def uptoSmall : (H : Type) → List (DataW H) → Bool := fun _ ds => decide (uptoBulkAll ds ≤ 1048576)
def OpenSpec.upto (s : _root_.Go.ChangeSpec) : _root_.Go.OpenSpec := { _root_.Go.OpenSpec.ofChange s with cond := some uptoSmall }

/-- 'cachetlaw13.SegmentPuts', WHERE WHAT IT READS IS OF BULK AT MOST 1048576: true; the input reads as it did. -/
def segmentPutsUptoRow : OpenClaim := { program := "ytapdlmiioljpgaa", sum := "70f6bbbab5fd394666315ea2e62225e7c0e61247aed333756a50c8a1ef2db430", func := "cachet/cachetlaw13.SegmentPuts", spec := "segmentPuts", inPlace := ["internal/bytealg.abigen_runtime_cmpstring", "internal/abi.NoEscape"], apart := false, narrowed := true }
def SegmentPutsUptoSaid : Prop := segmentPutsUptoRow.holds Try.pinned (OpenSpec.upto segmentPutsSpec)

/-- 'cachetlaw13.SegmentGets', WHERE WHAT IT READS IS OF BULK AT MOST 1048576: true; the input reads as it did. -/
def segmentGetsUptoRow : OpenClaim := { program := "ytapdlmiioljpgaa", sum := "70f6bbbab5fd394666315ea2e62225e7c0e61247aed333756a50c8a1ef2db430", func := "cachet/cachetlaw13.SegmentGets", spec := "segmentGets", inPlace := ["internal/bytealg.abigen_runtime_cmpstring", "internal/abi.NoEscape"], apart := false, narrowed := true }
def SegmentGetsUptoSaid : Prop := segmentGetsUptoRow.holds Try.pinned (OpenSpec.upto segmentGetsSpec)

/-- 'cachetlaw10.SessionApplies', WHERE WHAT IT READS IS OF BULK AT MOST 1048576: true; the input reads as it did. -/
def sessionAppliesUptoRow : OpenClaim := { program := "ytapdlmiioljpgaa", sum := "70f6bbbab5fd394666315ea2e62225e7c0e61247aed333756a50c8a1ef2db430", func := "cachet/cachetlaw10.SessionApplies", spec := "sessionApplies", inPlace := ["slices.overlaps[cachet/api.Row]", "internal/abi.NoEscape"], unfollowed := true, recurses := true, apart := false, narrowed := true }
def SessionAppliesUptoSaid : Prop := sessionAppliesUptoRow.holds Try.pinned (OpenSpec.upto sessionAppliesSpec)

/-- 'cachetlaw10.SessionTexts', WHERE WHAT IT READS IS OF BULK AT MOST 1048576: true; the input reads as it did. -/
def sessionTextsUptoRow : OpenClaim := { program := "ytapdlmiioljpgaa", sum := "70f6bbbab5fd394666315ea2e62225e7c0e61247aed333756a50c8a1ef2db430", func := "cachet/cachetlaw10.SessionTexts", spec := "sessionTexts", inPlace := ["internal/abi.NoEscape", "slices.overlaps[cachet/api.Row]"], unfollowed := true, recurses := true, apart := false, narrowed := true }
def SessionTextsUptoSaid : Prop := sessionTextsUptoRow.holds Try.pinned (OpenSpec.upto sessionTextsSpec)

/-- 'cachetlaw11.IngestCopies', WHERE WHAT IT READS IS OF BULK AT MOST 1048576: true; the input reads as it did. -/
def ingestCopiesUptoRow : OpenClaim := { program := "ytapdlmiioljpgaa", sum := "70f6bbbab5fd394666315ea2e62225e7c0e61247aed333756a50c8a1ef2db430", func := "cachet/cachetlaw11.IngestCopies", spec := "ingestCopies", inPlace := ["slices.overlaps[cachet/api.Row]", "internal/bytealg.abigen_runtime_cmpstring", "slices.overlaps[cachet/api.Point]", "internal/abi.NoEscape"], unfollowed := true, recurses := true, apart := false, narrowed := true }
def IngestCopiesUptoSaid : Prop := ingestCopiesUptoRow.holds Try.pinned (OpenSpec.upto ingestCopiesSpec)

/-- 'cachetlaw11.IngestAlike', WHERE WHAT IT READS IS OF BULK AT MOST 1048576: true; the input reads as it did. -/
def ingestAlikeUptoRow : OpenClaim := { program := "ytapdlmiioljpgaa", sum := "70f6bbbab5fd394666315ea2e62225e7c0e61247aed333756a50c8a1ef2db430", func := "cachet/cachetlaw11.IngestAlike", spec := "ingestAlike", inPlace := ["slices.overlaps[cachet/api.Row]", "internal/bytealg.abigen_runtime_cmpstring", "slices.overlaps[cachet/api.Point]", "internal/abi.NoEscape"], unfollowed := true, recurses := true, apart := false, narrowed := true }
def IngestAlikeUptoSaid : Prop := ingestAlikeUptoRow.holds Try.pinned (OpenSpec.upto ingestAlikeSpec)

/-- 'cachetlaw11.IngestSnaps', WHERE WHAT IT READS IS OF BULK AT MOST 1048576: true; the input reads as it did. -/
def ingestSnapsUptoRow : OpenClaim := { program := "ytapdlmiioljpgaa", sum := "70f6bbbab5fd394666315ea2e62225e7c0e61247aed333756a50c8a1ef2db430", func := "cachet/cachetlaw11.IngestSnaps", spec := "ingestSnaps", inPlace := ["slices.overlaps[cachet/api.Row]", "internal/bytealg.abigen_runtime_cmpstring", "slices.overlaps[cachet/api.Point]", "internal/abi.NoEscape"], unfollowed := true, recurses := true, apart := false, narrowed := true }
def IngestSnapsUptoSaid : Prop := ingestSnapsUptoRow.holds Try.pinned (OpenSpec.upto ingestSnapsSpec)

/-- 'cachetlaw14.SealRanges', WHERE WHAT IT READS IS OF BULK AT MOST 1048576: true; the input reads as it did. -/
def sealRangesUptoRow : OpenClaim := { program := "ytapdlmiioljpgaa", sum := "70f6bbbab5fd394666315ea2e62225e7c0e61247aed333756a50c8a1ef2db430", func := "cachet/cachetlaw14.SealRanges", spec := "sealRanges", inPlace := ["slices.overlaps[cachet/api.Row]", "internal/bytealg.abigen_runtime_cmpstring", "slices.overlaps[cachet/api.Point]", "internal/abi.NoEscape"], unfollowed := true, recurses := true, apart := false, narrowed := true }
def SealRangesUptoSaid : Prop := sealRangesUptoRow.holds Try.pinned (OpenSpec.upto sealRangesSpec)

/-- 'cachetlaw14.SealLater', WHERE WHAT IT READS IS OF BULK AT MOST 1048576: true; the input reads as it did. -/
def sealLaterUptoRow : OpenClaim := { program := "ytapdlmiioljpgaa", sum := "70f6bbbab5fd394666315ea2e62225e7c0e61247aed333756a50c8a1ef2db430", func := "cachet/cachetlaw14.SealLater", spec := "sealLater", inPlace := ["slices.overlaps[cachet/api.Row]", "internal/bytealg.abigen_runtime_cmpstring", "slices.overlaps[cachet/api.Point]", "internal/abi.NoEscape"], unfollowed := true, recurses := true, apart := false, narrowed := true }
def SealLaterUptoSaid : Prop := sealLaterUptoRow.holds Try.pinned (OpenSpec.upto sealLaterSpec)

/-- 'cachetlaw14.SealDigests', WHERE WHAT IT READS IS OF BULK AT MOST 1048576: true; the input reads as it did. -/
def sealDigestsUptoRow : OpenClaim := { program := "ytapdlmiioljpgaa", sum := "70f6bbbab5fd394666315ea2e62225e7c0e61247aed333756a50c8a1ef2db430", func := "cachet/cachetlaw14.SealDigests", spec := "sealDigests", inPlace := ["slices.overlaps[cachet/api.Row]", "internal/bytealg.abigen_runtime_cmpstring", "slices.overlaps[cachet/api.Point]", "internal/abi.NoEscape"], unfollowed := true, recurses := true, apart := false, narrowed := true }
def SealDigestsUptoSaid : Prop := sealDigestsUptoRow.holds Try.pinned (OpenSpec.upto sealDigestsSpec)

/-- 'cachetlaw14.SealAlike', WHERE WHAT IT READS IS OF BULK AT MOST 1048576: true; the input reads as it did. -/
def sealAlikeUptoRow : OpenClaim := { program := "ytapdlmiioljpgaa", sum := "70f6bbbab5fd394666315ea2e62225e7c0e61247aed333756a50c8a1ef2db430", func := "cachet/cachetlaw14.SealAlike", spec := "sealAlike", inPlace := ["slices.overlaps[cachet/api.Row]", "internal/bytealg.abigen_runtime_cmpstring", "slices.overlaps[cachet/api.Point]", "internal/abi.NoEscape"], unfollowed := true, recurses := true, apart := false, narrowed := true }
def SealAlikeUptoSaid : Prop := sealAlikeUptoRow.holds Try.pinned (OpenSpec.upto sealAlikeSpec)

end Rows
end Go.Proofs.Ytapdlmiioljpgaa
