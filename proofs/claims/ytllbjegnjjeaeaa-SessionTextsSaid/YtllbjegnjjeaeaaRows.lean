/-
  No cell of these rows narrows 'for every input' (looked for: loops, veiled, ifaces, maps, wideKeys, modest, calm, conditions, laid).
  DERIVED. THE GIVEN ROWS OF THIS SEAT. 7 by the template 'for every input the law returns true; each argument reads behind the call as it read before'; 0 by the template 'total and deterministic' (their statements: YtllbjegnjjeaeaaTotals.lean).
  GIVEN WITH THE SEED: the statements are not yours to turn. If you find one false, say at which input.
  Laid BY PROGRAM, IN A SANDBOX (cutbox-rows.mjs): the forced cells as the released guide's own fill.sh prints them over the translation 91ea9541bb9f4269… (all of the seat's roots in one cut). By AI agents, Wed Nov 11 2026. No macro, syntax, notation, axiom, sorry.
-/
import Derived.Test.YtllbjegnjjeaeaaChecked
import GoSem.Claim
import GoSem.ClaimJoined
import GoSem.ClaimMapViews
import Derived.JoinedTies
import Derived.KernelRfl
namespace Go.Proofs.Ytllbjegnjjeaeaa
/- THE CELL 'sum', in the pinned program and in every row, IS THE sha256 OF THE DUMP (.gsa) THAT YtllbjegnjjeaeaaProg.lean LOADS. Nothing in Lean hashes anything: it is a label: what it is worth is what the hold of that sum in a sandbox is worth. -/
noncomputable def Try.pinned : Pinned := { name := "ytllbjegnjjeaeaa", sum := "91ea9541bb9f4269a106bee907e9814868898495dbd965f517b602ec2f2260b0", checked := Try.checked }
namespace Rows
def none {H : Type} : Left H := { results := [], args := [] }

/-- 'cachetlaw10.SessionApplies': WHATEVER THE INPUT: true; the input reads as it did. -/
def sessionAppliesSpec : ChangeSpec := { name := "sessionApplies", fn := fun _ => fun
  | [d1, d2, d3] => { results := [.lit (.bool true)], args := [d1, d2, d3] }
  | _ => none }
def sessionAppliesRow : OpenClaim := { program := "ytllbjegnjjeaeaa", sum := "91ea9541bb9f4269a106bee907e9814868898495dbd965f517b602ec2f2260b0", func := "cachet/cachetlaw10.SessionApplies", spec := "sessionApplies", inPlace := ["slices.overlaps[cachet/api.Row]", "internal/abi.NoEscape"], unfollowed := true, recurses := true, apart := false }
def SessionAppliesSaid : Prop := sessionAppliesRow.holds Try.pinned (OpenSpec.ofChange sessionAppliesSpec)

/-- ITS FALSE NEIGHBOUR: 'it returns false'. Refute it at one input. -/
def sessionAppliesWrong : ChangeSpec := { name := "sessionApplies", fn := fun _ => fun
  | [d1, d2, d3] => { results := [.lit (.bool false)], args := [d1, d2, d3] }
  | _ => none }
def SessionAppliesWrongFalsely : Prop := sessionAppliesRow.holds Try.pinned (OpenSpec.ofChange sessionAppliesWrong)

/-- 'cachetlaw10.SessionTexts': WHATEVER THE INPUT: true; the input reads as it did. -/
def sessionTextsSpec : ChangeSpec := { name := "sessionTexts", fn := fun _ => fun
  | [d1, d2] => { results := [.lit (.bool true)], args := [d1, d2] }
  | _ => none }
def sessionTextsRow : OpenClaim := { program := "ytllbjegnjjeaeaa", sum := "91ea9541bb9f4269a106bee907e9814868898495dbd965f517b602ec2f2260b0", func := "cachet/cachetlaw10.SessionTexts", spec := "sessionTexts", inPlace := ["internal/abi.NoEscape", "slices.overlaps[cachet/api.Row]"], unfollowed := true, recurses := true, apart := false }
def SessionTextsSaid : Prop := sessionTextsRow.holds Try.pinned (OpenSpec.ofChange sessionTextsSpec)

/-- ITS FALSE NEIGHBOUR: 'it returns false'. Refute it at one input. -/
def sessionTextsWrong : ChangeSpec := { name := "sessionTexts", fn := fun _ => fun
  | [d1, d2] => { results := [.lit (.bool false)], args := [d1, d2] }
  | _ => none }
def SessionTextsWrongFalsely : Prop := sessionTextsRow.holds Try.pinned (OpenSpec.ofChange sessionTextsWrong)

/-- 'cachetlaw10.SessionOnce': WHATEVER THE INPUT: true; the input reads as it did. -/
def sessionOnceSpec : ChangeSpec := { name := "sessionOnce", fn := fun _ => fun
  | [d] => { results := [.lit (.bool true)], args := [d] }
  | _ => none }
def sessionOnceRow : OpenClaim := { program := "ytllbjegnjjeaeaa", sum := "91ea9541bb9f4269a106bee907e9814868898495dbd965f517b602ec2f2260b0", func := "cachet/cachetlaw10.SessionOnce", spec := "sessionOnce", inPlace := ["slices.overlaps[cachet/api.Row]", "internal/abi.NoEscape"], unfollowed := true, recurses := true, apart := false }
def SessionOnceSaid : Prop := sessionOnceRow.holds Try.pinned (OpenSpec.ofChange sessionOnceSpec)

/-- ITS FALSE NEIGHBOUR: 'it returns false'. Refute it at one input. -/
def sessionOnceWrong : ChangeSpec := { name := "sessionOnce", fn := fun _ => fun
  | [d] => { results := [.lit (.bool false)], args := [d] }
  | _ => none }
def SessionOnceWrongFalsely : Prop := sessionOnceRow.holds Try.pinned (OpenSpec.ofChange sessionOnceWrong)

/-- 'cachetlaw10.SessionMost': WHATEVER THE INPUT: true; the input reads as it did. -/
def sessionMostSpec : ChangeSpec := { name := "sessionMost", fn := fun _ => fun
  | [d1, d2] => { results := [.lit (.bool true)], args := [d1, d2] }
  | _ => none }
def sessionMostRow : OpenClaim := { program := "ytllbjegnjjeaeaa", sum := "91ea9541bb9f4269a106bee907e9814868898495dbd965f517b602ec2f2260b0", func := "cachet/cachetlaw10.SessionMost", spec := "sessionMost", inPlace := ["slices.overlaps[cachet/api.Row]", "internal/abi.NoEscape"], unfollowed := true, recurses := true, apart := false }
def SessionMostSaid : Prop := sessionMostRow.holds Try.pinned (OpenSpec.ofChange sessionMostSpec)

/-- ITS FALSE NEIGHBOUR: 'it returns false'. Refute it at one input. -/
def sessionMostWrong : ChangeSpec := { name := "sessionMost", fn := fun _ => fun
  | [d1, d2] => { results := [.lit (.bool false)], args := [d1, d2] }
  | _ => none }
def SessionMostWrongFalsely : Prop := sessionMostRow.holds Try.pinned (OpenSpec.ofChange sessionMostWrong)

/-- 'cachetlaw10.SessionCodes': WHATEVER THE INPUT: true; the input reads as it did. -/
def sessionCodesSpec : ChangeSpec := { name := "sessionCodes", fn := fun _ => fun
  | [d1, d2, d3] => { results := [.lit (.bool true)], args := [d1, d2, d3] }
  | _ => none }
def sessionCodesRow : OpenClaim := { program := "ytllbjegnjjeaeaa", sum := "91ea9541bb9f4269a106bee907e9814868898495dbd965f517b602ec2f2260b0", func := "cachet/cachetlaw10.SessionCodes", spec := "sessionCodes", inPlace := ["slices.overlaps[cachet/api.Row]", "internal/abi.NoEscape"], unfollowed := true, recurses := true, apart := false }
def SessionCodesSaid : Prop := sessionCodesRow.holds Try.pinned (OpenSpec.ofChange sessionCodesSpec)

/-- ITS FALSE NEIGHBOUR: 'it returns false'. Refute it at one input. -/
def sessionCodesWrong : ChangeSpec := { name := "sessionCodes", fn := fun _ => fun
  | [d1, d2, d3] => { results := [.lit (.bool false)], args := [d1, d2, d3] }
  | _ => none }
def SessionCodesWrongFalsely : Prop := sessionCodesRow.holds Try.pinned (OpenSpec.ofChange sessionCodesWrong)

/-- 'cachetlaw10.SessionStays': WHATEVER THE INPUT: true; the input reads as it did. -/
def sessionStaysSpec : ChangeSpec := { name := "sessionStays", fn := fun _ => fun
  | [d1, d2, d3] => { results := [.lit (.bool true)], args := [d1, d2, d3] }
  | _ => none }
def sessionStaysRow : OpenClaim := { program := "ytllbjegnjjeaeaa", sum := "91ea9541bb9f4269a106bee907e9814868898495dbd965f517b602ec2f2260b0", func := "cachet/cachetlaw10.SessionStays", spec := "sessionStays", inPlace := ["slices.overlaps[cachet/api.Row]", "internal/abi.NoEscape"], unfollowed := true, recurses := true, apart := false }
def SessionStaysSaid : Prop := sessionStaysRow.holds Try.pinned (OpenSpec.ofChange sessionStaysSpec)

/-- ITS FALSE NEIGHBOUR: 'it returns false'. Refute it at one input. -/
def sessionStaysWrong : ChangeSpec := { name := "sessionStays", fn := fun _ => fun
  | [d1, d2, d3] => { results := [.lit (.bool false)], args := [d1, d2, d3] }
  | _ => none }
def SessionStaysWrongFalsely : Prop := sessionStaysRow.holds Try.pinned (OpenSpec.ofChange sessionStaysWrong)

/-- 'cachetlaw10.SessionRows': WHATEVER THE INPUT: true; the input reads as it did. -/
def sessionRowsSpec : ChangeSpec := { name := "sessionRows", fn := fun _ => fun
  | [d] => { results := [.lit (.bool true)], args := [d] }
  | _ => none }
def sessionRowsRow : OpenClaim := { program := "ytllbjegnjjeaeaa", sum := "91ea9541bb9f4269a106bee907e9814868898495dbd965f517b602ec2f2260b0", func := "cachet/cachetlaw10.SessionRows", spec := "sessionRows", inPlace := ["slices.overlaps[cachet/api.Row]", "internal/abi.NoEscape"], unfollowed := true, recurses := true, apart := false }
def SessionRowsSaid : Prop := sessionRowsRow.holds Try.pinned (OpenSpec.ofChange sessionRowsSpec)

/-- ITS FALSE NEIGHBOUR: 'it returns false'. Refute it at one input. -/
def sessionRowsWrong : ChangeSpec := { name := "sessionRows", fn := fun _ => fun
  | [d] => { results := [.lit (.bool false)], args := [d] }
  | _ => none }
def SessionRowsWrongFalsely : Prop := sessionRowsRow.holds Try.pinned (OpenSpec.ofChange sessionRowsWrong)

/- THE SECOND FORM. 'bulk': how many values and letters a reading holds, each counted each time it is reached (what is shared counts as often as it is met; a slice's spare places count too). A statement '..UptoSaid' is the law's where the arguments, and the package variables that the reading takes, are together of bulk at most 1048576: NARROWER than '..Said'. Prove '..Said' where nothing that the law and all that it calls make is longer than what came in: it says more and counts as full. Else prove '..UptoSaid'. A law counts once. -/
mutual
def uptoBulk {H : Type} : DataW H → Nat
  | .lit (.string bytes) => bytes.length + 1
  | .lit _ => 1
  | .nil => 1
  | .ptr d => uptoBulk d + 1
  | .slice elems spare => uptoBulkAll elems + uptoBulkAll spare + 1
  | .agg parts => uptoBulkAll parts + 1
  | .iface _ d => uptoBulk d + 1
  | .map entries => uptoBulkEntries entries + 1
  | .held _ => 1
def uptoBulkAll {H : Type} : List (DataW H) → Nat
  | [] => 0
  | d :: r => uptoBulk d + uptoBulkAll r
def uptoBulkEntries {H : Type} : List (Lit × DataW H) → Nat
  | [] => 0
  | x :: r => uptoBulkEntry x + uptoBulkEntries r
def uptoBulkEntry {H : Type} : Lit × DataW H → Nat
  | (.string bytes, d) => bytes.length + uptoBulk d + 1
  | (_, d) => uptoBulk d + 1
 end
def uptoSmall : (H : Type) → List (DataW H) → Bool := fun _ ds => decide (uptoBulkAll ds ≤ 1048576)
def OpenSpec.upto (s : _root_.Go.ChangeSpec) : _root_.Go.OpenSpec := { _root_.Go.OpenSpec.ofChange s with cond := some uptoSmall }

/-- 'cachetlaw10.SessionApplies', WHERE WHAT IT READS IS OF BULK AT MOST 1048576: true; the input reads as it did. -/
def sessionAppliesUptoRow : OpenClaim := { program := "ytllbjegnjjeaeaa", sum := "91ea9541bb9f4269a106bee907e9814868898495dbd965f517b602ec2f2260b0", func := "cachet/cachetlaw10.SessionApplies", spec := "sessionApplies", inPlace := ["slices.overlaps[cachet/api.Row]", "internal/abi.NoEscape"], unfollowed := true, recurses := true, apart := false, narrowed := true }
def SessionAppliesUptoSaid : Prop := sessionAppliesUptoRow.holds Try.pinned (OpenSpec.upto sessionAppliesSpec)

/-- 'cachetlaw10.SessionTexts', WHERE WHAT IT READS IS OF BULK AT MOST 1048576: true; the input reads as it did. -/
def sessionTextsUptoRow : OpenClaim := { program := "ytllbjegnjjeaeaa", sum := "91ea9541bb9f4269a106bee907e9814868898495dbd965f517b602ec2f2260b0", func := "cachet/cachetlaw10.SessionTexts", spec := "sessionTexts", inPlace := ["internal/abi.NoEscape", "slices.overlaps[cachet/api.Row]"], unfollowed := true, recurses := true, apart := false, narrowed := true }
def SessionTextsUptoSaid : Prop := sessionTextsUptoRow.holds Try.pinned (OpenSpec.upto sessionTextsSpec)

/-- 'cachetlaw10.SessionOnce', WHERE WHAT IT READS IS OF BULK AT MOST 1048576: true; the input reads as it did. -/
def sessionOnceUptoRow : OpenClaim := { program := "ytllbjegnjjeaeaa", sum := "91ea9541bb9f4269a106bee907e9814868898495dbd965f517b602ec2f2260b0", func := "cachet/cachetlaw10.SessionOnce", spec := "sessionOnce", inPlace := ["slices.overlaps[cachet/api.Row]", "internal/abi.NoEscape"], unfollowed := true, recurses := true, apart := false, narrowed := true }
def SessionOnceUptoSaid : Prop := sessionOnceUptoRow.holds Try.pinned (OpenSpec.upto sessionOnceSpec)

/-- 'cachetlaw10.SessionMost', WHERE WHAT IT READS IS OF BULK AT MOST 1048576: true; the input reads as it did. -/
def sessionMostUptoRow : OpenClaim := { program := "ytllbjegnjjeaeaa", sum := "91ea9541bb9f4269a106bee907e9814868898495dbd965f517b602ec2f2260b0", func := "cachet/cachetlaw10.SessionMost", spec := "sessionMost", inPlace := ["slices.overlaps[cachet/api.Row]", "internal/abi.NoEscape"], unfollowed := true, recurses := true, apart := false, narrowed := true }
def SessionMostUptoSaid : Prop := sessionMostUptoRow.holds Try.pinned (OpenSpec.upto sessionMostSpec)

/-- 'cachetlaw10.SessionCodes', WHERE WHAT IT READS IS OF BULK AT MOST 1048576: true; the input reads as it did. -/
def sessionCodesUptoRow : OpenClaim := { program := "ytllbjegnjjeaeaa", sum := "91ea9541bb9f4269a106bee907e9814868898495dbd965f517b602ec2f2260b0", func := "cachet/cachetlaw10.SessionCodes", spec := "sessionCodes", inPlace := ["slices.overlaps[cachet/api.Row]", "internal/abi.NoEscape"], unfollowed := true, recurses := true, apart := false, narrowed := true }
def SessionCodesUptoSaid : Prop := sessionCodesUptoRow.holds Try.pinned (OpenSpec.upto sessionCodesSpec)

/-- 'cachetlaw10.SessionStays', WHERE WHAT IT READS IS OF BULK AT MOST 1048576: true; the input reads as it did. -/
def sessionStaysUptoRow : OpenClaim := { program := "ytllbjegnjjeaeaa", sum := "91ea9541bb9f4269a106bee907e9814868898495dbd965f517b602ec2f2260b0", func := "cachet/cachetlaw10.SessionStays", spec := "sessionStays", inPlace := ["slices.overlaps[cachet/api.Row]", "internal/abi.NoEscape"], unfollowed := true, recurses := true, apart := false, narrowed := true }
def SessionStaysUptoSaid : Prop := sessionStaysUptoRow.holds Try.pinned (OpenSpec.upto sessionStaysSpec)

/-- 'cachetlaw10.SessionRows', WHERE WHAT IT READS IS OF BULK AT MOST 1048576: true; the input reads as it did. -/
def sessionRowsUptoRow : OpenClaim := { program := "ytllbjegnjjeaeaa", sum := "91ea9541bb9f4269a106bee907e9814868898495dbd965f517b602ec2f2260b0", func := "cachet/cachetlaw10.SessionRows", spec := "sessionRows", inPlace := ["slices.overlaps[cachet/api.Row]", "internal/abi.NoEscape"], unfollowed := true, recurses := true, apart := false, narrowed := true }
def SessionRowsUptoSaid : Prop := sessionRowsUptoRow.holds Try.pinned (OpenSpec.upto sessionRowsSpec)

end Rows
end Go.Proofs.Ytllbjegnjjeaeaa
