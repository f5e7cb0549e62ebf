/-
  No cell of these rows narrows 'for every input' (looked for: loops, veiled, ifaces, maps, wideKeys, modest, calm, conditions, laid).
  DERIVED. THE GIVEN ROWS OF THIS SEAT. 12 by the template 'for every input the law returns true; each argument reads behind the call as it read before'; 0 by the template 'total and deterministic' (their statements: YthpnhodpfhagaaaTotals.lean).
  GIVEN WITH THE SEED: the statements are not yours to turn. If you find one false, say at which input.
  Laid BY PROGRAM, IN A SANDBOX (cutbox-rows.mjs): the forced cells as the released guide's own fill.sh prints them over the translation a9a892e833e9f605… (all of the seat's roots in one cut). By AI agents, Wed Nov 11 2026. No macro, syntax, notation, axiom, sorry.
-/
import Derived.Test.YthpnhodpfhagaaaChecked
import GoSem.Claim
import GoSem.ClaimJoined
import GoSem.ClaimMapViews
import Derived.JoinedTies
import Derived.KernelRfl
namespace Go.Proofs.Ythpnhodpfhagaaa
/- THE CELL 'sum', in the pinned program and in every row, IS THE sha256 OF THE DUMP (.gsa) THAT YthpnhodpfhagaaaProg.lean LOADS. Nothing in Lean hashes anything: it is a label: what it is worth is what the hold of that sum in a sandbox is worth. -/
noncomputable def Try.pinned : Pinned := { name := "ythpnhodpfhagaaa", sum := "a9a892e833e9f605d47e41705a69d83eb9d84a4c7277dfdece11d0ed15a8ea5c", checked := Try.checked }
namespace Rows
def none {H : Type} : Left H := { results := [], args := [] }

/-- 'cachetlaw12.ColumnInts': WHATEVER THE INPUT: true; the input reads as it did. -/
def columnIntsSpec : ChangeSpec := { name := "columnInts", fn := fun _ => fun
  | [d1, d2, d3, d4] => { results := [.lit (.bool true)], args := [d1, d2, d3, d4] }
  | _ => none }
def columnIntsRow : OpenClaim := { program := "ythpnhodpfhagaaa", sum := "a9a892e833e9f605d47e41705a69d83eb9d84a4c7277dfdece11d0ed15a8ea5c", func := "cachet/cachetlaw12.ColumnInts", spec := "columnInts", inPlace := ["internal/abi.NoEscape"], apart := false }
def ColumnIntsSaid : Prop := columnIntsRow.holds Try.pinned (OpenSpec.ofChange columnIntsSpec)

/-- ITS FALSE NEIGHBOUR: 'it returns false'. Refute it at one input. -/
def columnIntsWrong : ChangeSpec := { name := "columnInts", fn := fun _ => fun
  | [d1, d2, d3, d4] => { results := [.lit (.bool false)], args := [d1, d2, d3, d4] }
  | _ => none }
def ColumnIntsWrongFalsely : Prop := columnIntsRow.holds Try.pinned (OpenSpec.ofChange columnIntsWrong)

/-- 'cachetlaw12.ColumnTexts': WHATEVER THE INPUT: true; the input reads as it did. -/
def columnTextsSpec : ChangeSpec := { name := "columnTexts", fn := fun _ => fun
  | [d1, d2, d3, d4] => { results := [.lit (.bool true)], args := [d1, d2, d3, d4] }
  | _ => none }
def columnTextsRow : OpenClaim := { program := "ythpnhodpfhagaaa", sum := "a9a892e833e9f605d47e41705a69d83eb9d84a4c7277dfdece11d0ed15a8ea5c", func := "cachet/cachetlaw12.ColumnTexts", spec := "columnTexts", inPlace := ["internal/abi.NoEscape"], apart := false }
def ColumnTextsSaid : Prop := columnTextsRow.holds Try.pinned (OpenSpec.ofChange columnTextsSpec)

/-- ITS FALSE NEIGHBOUR: 'it returns false'. Refute it at one input. -/
def columnTextsWrong : ChangeSpec := { name := "columnTexts", fn := fun _ => fun
  | [d1, d2, d3, d4] => { results := [.lit (.bool false)], args := [d1, d2, d3, d4] }
  | _ => none }
def ColumnTextsWrongFalsely : Prop := columnTextsRow.holds Try.pinned (OpenSpec.ofChange columnTextsWrong)

/-- 'cachetlaw12.ColumnBack': WHATEVER THE INPUT: true; the input reads as it did. -/
def columnBackSpec : ChangeSpec := { name := "columnBack", fn := fun _ => fun
  | [d1, d2, d3] => { results := [.lit (.bool true)], args := [d1, d2, d3] }
  | _ => none }
def columnBackRow : OpenClaim := { program := "ythpnhodpfhagaaa", sum := "a9a892e833e9f605d47e41705a69d83eb9d84a4c7277dfdece11d0ed15a8ea5c", func := "cachet/cachetlaw12.ColumnBack", spec := "columnBack", inPlace := ["internal/abi.NoEscape"], apart := false }
def ColumnBackSaid : Prop := columnBackRow.holds Try.pinned (OpenSpec.ofChange columnBackSpec)

/-- ITS FALSE NEIGHBOUR: 'it returns false'. Refute it at one input. -/
def columnBackWrong : ChangeSpec := { name := "columnBack", fn := fun _ => fun
  | [d1, d2, d3] => { results := [.lit (.bool false)], args := [d1, d2, d3] }
  | _ => none }
def ColumnBackWrongFalsely : Prop := columnBackRow.holds Try.pinned (OpenSpec.ofChange columnBackWrong)

/-- 'cachetlaw12.ColumnSteady': WHATEVER THE INPUT: true; the input reads as it did. -/
def columnSteadySpec : ChangeSpec := { name := "columnSteady", fn := fun _ => fun
  | [d1, d2, d3] => { results := [.lit (.bool true)], args := [d1, d2, d3] }
  | _ => none }
def columnSteadyRow : OpenClaim := { program := "ythpnhodpfhagaaa", sum := "a9a892e833e9f605d47e41705a69d83eb9d84a4c7277dfdece11d0ed15a8ea5c", func := "cachet/cachetlaw12.ColumnSteady", spec := "columnSteady", inPlace := ["internal/abi.NoEscape"], apart := false }
def ColumnSteadySaid : Prop := columnSteadyRow.holds Try.pinned (OpenSpec.ofChange columnSteadySpec)

/-- ITS FALSE NEIGHBOUR: 'it returns false'. Refute it at one input. -/
def columnSteadyWrong : ChangeSpec := { name := "columnSteady", fn := fun _ => fun
  | [d1, d2, d3] => { results := [.lit (.bool false)], args := [d1, d2, d3] }
  | _ => none }
def ColumnSteadyWrongFalsely : Prop := columnSteadyRow.holds Try.pinned (OpenSpec.ofChange columnSteadyWrong)

/-- 'cachetlaw12.ColumnWords': WHATEVER THE INPUT: true; the input reads as it did. -/
def columnWordsSpec : ChangeSpec := { name := "columnWords", fn := fun _ => fun
  | [d] => { results := [.lit (.bool true)], args := [d] }
  | _ => none }
def columnWordsRow : OpenClaim := { program := "ythpnhodpfhagaaa", sum := "a9a892e833e9f605d47e41705a69d83eb9d84a4c7277dfdece11d0ed15a8ea5c", func := "cachet/cachetlaw12.ColumnWords", spec := "columnWords", inPlace := ["internal/abi.NoEscape"], apart := false }
def ColumnWordsSaid : Prop := columnWordsRow.holds Try.pinned (OpenSpec.ofChange columnWordsSpec)

/-- ITS FALSE NEIGHBOUR: 'it returns false'. Refute it at one input. -/
def columnWordsWrong : ChangeSpec := { name := "columnWords", fn := fun _ => fun
  | [d] => { results := [.lit (.bool false)], args := [d] }
  | _ => none }
def ColumnWordsWrongFalsely : Prop := columnWordsRow.holds Try.pinned (OpenSpec.ofChange columnWordsWrong)

/-- 'cachetlaw12.ColumnForms': WHATEVER THE INPUT: true; the input reads as it did. -/
def columnFormsSpec : ChangeSpec := { name := "columnForms", fn := fun _ => fun
  | [d1, d2] => { results := [.lit (.bool true)], args := [d1, d2] }
  | _ => none }
def columnFormsRow : OpenClaim := { program := "ythpnhodpfhagaaa", sum := "a9a892e833e9f605d47e41705a69d83eb9d84a4c7277dfdece11d0ed15a8ea5c", func := "cachet/cachetlaw12.ColumnForms", spec := "columnForms", inPlace := ["internal/abi.NoEscape"], apart := false }
def ColumnFormsSaid : Prop := columnFormsRow.holds Try.pinned (OpenSpec.ofChange columnFormsSpec)

/-- ITS FALSE NEIGHBOUR: 'it returns false'. Refute it at one input. -/
def columnFormsWrong : ChangeSpec := { name := "columnForms", fn := fun _ => fun
  | [d1, d2] => { results := [.lit (.bool false)], args := [d1, d2] }
  | _ => none }
def ColumnFormsWrongFalsely : Prop := columnFormsRow.holds Try.pinned (OpenSpec.ofChange columnFormsWrong)

/-- 'cachetlaw13.SegmentPuts': WHATEVER THE INPUT: true; the input reads as it did. -/
def segmentPutsSpec : ChangeSpec := { name := "segmentPuts", fn := fun _ => fun
  | [d1, d2] => { results := [.lit (.bool true)], args := [d1, d2] }
  | _ => none }
def segmentPutsRow : OpenClaim := { program := "ythpnhodpfhagaaa", sum := "a9a892e833e9f605d47e41705a69d83eb9d84a4c7277dfdece11d0ed15a8ea5c", func := "cachet/cachetlaw13.SegmentPuts", spec := "segmentPuts", inPlace := ["internal/bytealg.abigen_runtime_cmpstring", "internal/abi.NoEscape"], apart := false }
def SegmentPutsSaid : Prop := segmentPutsRow.holds Try.pinned (OpenSpec.ofChange segmentPutsSpec)

/-- ITS FALSE NEIGHBOUR: 'it returns false'. Refute it at one input. -/
def segmentPutsWrong : ChangeSpec := { name := "segmentPuts", fn := fun _ => fun
  | [d1, d2] => { results := [.lit (.bool false)], args := [d1, d2] }
  | _ => none }
def SegmentPutsWrongFalsely : Prop := segmentPutsRow.holds Try.pinned (OpenSpec.ofChange segmentPutsWrong)

/-- 'cachetlaw13.SegmentGets': WHATEVER THE INPUT: true; the input reads as it did. -/
def segmentGetsSpec : ChangeSpec := { name := "segmentGets", fn := fun _ => fun
  | [d] => { results := [.lit (.bool true)], args := [d] }
  | _ => none }
def segmentGetsRow : OpenClaim := { program := "ythpnhodpfhagaaa", sum := "a9a892e833e9f605d47e41705a69d83eb9d84a4c7277dfdece11d0ed15a8ea5c", func := "cachet/cachetlaw13.SegmentGets", spec := "segmentGets", inPlace := ["internal/bytealg.abigen_runtime_cmpstring", "internal/abi.NoEscape"], apart := false }
def SegmentGetsSaid : Prop := segmentGetsRow.holds Try.pinned (OpenSpec.ofChange segmentGetsSpec)

/-- ITS FALSE NEIGHBOUR: 'it returns false'. Refute it at one input. -/
def segmentGetsWrong : ChangeSpec := { name := "segmentGets", fn := fun _ => fun
  | [d] => { results := [.lit (.bool false)], args := [d] }
  | _ => none }
def SegmentGetsWrongFalsely : Prop := segmentGetsRow.holds Try.pinned (OpenSpec.ofChange segmentGetsWrong)

/-- 'cachetlaw13.SegmentBack': WHATEVER THE INPUT: true; the input reads as it did. -/
def segmentBackSpec : ChangeSpec := { name := "segmentBack", fn := fun _ => fun
  | [d1, d2, d3, d4] => { results := [.lit (.bool true)], args := [d1, d2, d3, d4] }
  | _ => none }
def segmentBackRow : OpenClaim := { program := "ythpnhodpfhagaaa", sum := "a9a892e833e9f605d47e41705a69d83eb9d84a4c7277dfdece11d0ed15a8ea5c", func := "cachet/cachetlaw13.SegmentBack", spec := "segmentBack", inPlace := ["internal/bytealg.abigen_runtime_cmpstring", "internal/abi.NoEscape"], apart := false }
def SegmentBackSaid : Prop := segmentBackRow.holds Try.pinned (OpenSpec.ofChange segmentBackSpec)

/-- ITS FALSE NEIGHBOUR: 'it returns false'. Refute it at one input. -/
def segmentBackWrong : ChangeSpec := { name := "segmentBack", fn := fun _ => fun
  | [d1, d2, d3, d4] => { results := [.lit (.bool false)], args := [d1, d2, d3, d4] }
  | _ => none }
def SegmentBackWrongFalsely : Prop := segmentBackRow.holds Try.pinned (OpenSpec.ofChange segmentBackWrong)

/-- 'cachetlaw13.SegmentRows': WHATEVER THE INPUT: true; the input reads as it did. -/
def segmentRowsSpec : ChangeSpec := { name := "segmentRows", fn := fun _ => fun
  | [d1, d2] => { results := [.lit (.bool true)], args := [d1, d2] }
  | _ => none }
def segmentRowsRow : OpenClaim := { program := "ythpnhodpfhagaaa", sum := "a9a892e833e9f605d47e41705a69d83eb9d84a4c7277dfdece11d0ed15a8ea5c", func := "cachet/cachetlaw13.SegmentRows", spec := "segmentRows", inPlace := ["internal/bytealg.abigen_runtime_cmpstring", "internal/abi.NoEscape"], apart := false }
def SegmentRowsSaid : Prop := segmentRowsRow.holds Try.pinned (OpenSpec.ofChange segmentRowsSpec)

/-- ITS FALSE NEIGHBOUR: 'it returns false'. Refute it at one input. -/
def segmentRowsWrong : ChangeSpec := { name := "segmentRows", fn := fun _ => fun
  | [d1, d2] => { results := [.lit (.bool false)], args := [d1, d2] }
  | _ => none }
def SegmentRowsWrongFalsely : Prop := segmentRowsRow.holds Try.pinned (OpenSpec.ofChange segmentRowsWrong)

/-- 'cachetlaw13.SegmentRanges': WHATEVER THE INPUT: true; the input reads as it did. -/
def segmentRangesSpec : ChangeSpec := { name := "segmentRanges", fn := fun _ => fun
  | [d] => { results := [.lit (.bool true)], args := [d] }
  | _ => none }
def segmentRangesRow : OpenClaim := { program := "ythpnhodpfhagaaa", sum := "a9a892e833e9f605d47e41705a69d83eb9d84a4c7277dfdece11d0ed15a8ea5c", func := "cachet/cachetlaw13.SegmentRanges", spec := "segmentRanges", inPlace := ["internal/bytealg.abigen_runtime_cmpstring", "internal/abi.NoEscape"], apart := false }
def SegmentRangesSaid : Prop := segmentRangesRow.holds Try.pinned (OpenSpec.ofChange segmentRangesSpec)

/-- ITS FALSE NEIGHBOUR: 'it returns false'. Refute it at one input. -/
def segmentRangesWrong : ChangeSpec := { name := "segmentRanges", fn := fun _ => fun
  | [d] => { results := [.lit (.bool false)], args := [d] }
  | _ => none }
def SegmentRangesWrongFalsely : Prop := segmentRangesRow.holds Try.pinned (OpenSpec.ofChange segmentRangesWrong)

/-- 'cachetlaw13.SegmentCuts': WHATEVER THE INPUT: true; the input reads as it did. -/
def segmentCutsSpec : ChangeSpec := { name := "segmentCuts", fn := fun _ => fun
  | [d1, d2] => { results := [.lit (.bool true)], args := [d1, d2] }
  | _ => none }
def segmentCutsRow : OpenClaim := { program := "ythpnhodpfhagaaa", sum := "a9a892e833e9f605d47e41705a69d83eb9d84a4c7277dfdece11d0ed15a8ea5c", func := "cachet/cachetlaw13.SegmentCuts", spec := "segmentCuts", inPlace := ["internal/bytealg.abigen_runtime_cmpstring", "internal/abi.NoEscape"], apart := false }
def SegmentCutsSaid : Prop := segmentCutsRow.holds Try.pinned (OpenSpec.ofChange segmentCutsSpec)

/-- ITS FALSE NEIGHBOUR: 'it returns false'. Refute it at one input. -/
def segmentCutsWrong : ChangeSpec := { name := "segmentCuts", fn := fun _ => fun
  | [d1, d2] => { results := [.lit (.bool false)], args := [d1, d2] }
  | _ => none }
def SegmentCutsWrongFalsely : Prop := segmentCutsRow.holds Try.pinned (OpenSpec.ofChange segmentCutsWrong)

/- THE SECOND FORM. 'bulk': how many values and letters a reading holds, each counted each time it is reached (what is shared counts as often as it is met; a slice's spare places count too). A statement '..UptoSaid' is the law's where the arguments, and the package variables that the reading takes, are together of bulk at most 1048576: NARROWER than '..Said'. Prove '..Said' where nothing that the law and all that it calls make is longer than what came in: it says more and counts as full. Else prove '..UptoSaid'. A law counts once. -/
mutual
def uptoBulk {H : Type} : DataW H → Nat
  | .lit (.string bytes) => bytes.length + 1
  | .lit _ => 1
  | .nil => 1
  | .ptr d => uptoBulk d + 1
  | .slice elems spare => uptoBulkAll elems + uptoBulkAll spare + 1
  | .agg parts => uptoBulkAll parts + 1
  | .iface _ d => uptoBulk d + 1
  | .map entries => uptoBulkEntries entries + 1
  | .held _ => 1
def uptoBulkAll {H : Type} : List (DataW H) → Nat
  | [] => 0
  | d :: r => uptoBulk d + uptoBulkAll r
def uptoBulkEntries {H : Type} : List (Lit × DataW H) → Nat
  | [] => 0
  | x :: r => uptoBulkEntry x + uptoBulkEntries r
def uptoBulkEntry {H : Type} : Lit × DataW H → Nat
  | (.string bytes, d) => bytes.length + uptoBulk d + 1
  | (_, d) => uptoBulk d + 1
 end
def uptoSmall : (H : Type) → List (DataW H) → Bool := fun _ ds => decide (uptoBulkAll ds ≤ 1048576)
def OpenSpec.upto (s : _root_.Go.ChangeSpec) : _root_.Go.OpenSpec := { _root_.Go.OpenSpec.ofChange s with cond := some uptoSmall }

/-- 'cachetlaw12.ColumnInts', WHERE WHAT IT READS IS OF BULK AT MOST 1048576: true; the input reads as it did. -/
def columnIntsUptoRow : OpenClaim := { program := "ythpnhodpfhagaaa", sum := "a9a892e833e9f605d47e41705a69d83eb9d84a4c7277dfdece11d0ed15a8ea5c", func := "cachet/cachetlaw12.ColumnInts", spec := "columnInts", inPlace := ["internal/abi.NoEscape"], apart := false, narrowed := true }
def ColumnIntsUptoSaid : Prop := columnIntsUptoRow.holds Try.pinned (OpenSpec.upto columnIntsSpec)

/-- 'cachetlaw12.ColumnTexts', WHERE WHAT IT READS IS OF BULK AT MOST 1048576: true; the input reads as it did. -/
def columnTextsUptoRow : OpenClaim := { program := "ythpnhodpfhagaaa", sum := "a9a892e833e9f605d47e41705a69d83eb9d84a4c7277dfdece11d0ed15a8ea5c", func := "cachet/cachetlaw12.ColumnTexts", spec := "columnTexts", inPlace := ["internal/abi.NoEscape"], apart := false, narrowed := true }
def ColumnTextsUptoSaid : Prop := columnTextsUptoRow.holds Try.pinned (OpenSpec.upto columnTextsSpec)

/-- 'cachetlaw12.ColumnBack', WHERE WHAT IT READS IS OF BULK AT MOST 1048576: true; the input reads as it did. -/
def columnBackUptoRow : OpenClaim := { program := "ythpnhodpfhagaaa", sum := "a9a892e833e9f605d47e41705a69d83eb9d84a4c7277dfdece11d0ed15a8ea5c", func := "cachet/cachetlaw12.ColumnBack", spec := "columnBack", inPlace := ["internal/abi.NoEscape"], apart := false, narrowed := true }
def ColumnBackUptoSaid : Prop := columnBackUptoRow.holds Try.pinned (OpenSpec.upto columnBackSpec)

/-- 'cachetlaw12.ColumnSteady', WHERE WHAT IT READS IS OF BULK AT MOST 1048576: true; the input reads as it did. -/
def columnSteadyUptoRow : OpenClaim := { program := "ythpnhodpfhagaaa", sum := "a9a892e833e9f605d47e41705a69d83eb9d84a4c7277dfdece11d0ed15a8ea5c", func := "cachet/cachetlaw12.ColumnSteady", spec := "columnSteady", inPlace := ["internal/abi.NoEscape"], apart := false, narrowed := true }
def ColumnSteadyUptoSaid : Prop := columnSteadyUptoRow.holds Try.pinned (OpenSpec.upto columnSteadySpec)

/-- 'cachetlaw12.ColumnWords', WHERE WHAT IT READS IS OF BULK AT MOST 1048576: true; the input reads as it did. -/
def columnWordsUptoRow : OpenClaim := { program := "ythpnhodpfhagaaa", sum := "a9a892e833e9f605d47e41705a69d83eb9d84a4c7277dfdece11d0ed15a8ea5c", func := "cachet/cachetlaw12.ColumnWords", spec := "columnWords", inPlace := ["internal/abi.NoEscape"], apart := false, narrowed := true }
def ColumnWordsUptoSaid : Prop := columnWordsUptoRow.holds Try.pinned (OpenSpec.upto columnWordsSpec)

/-- 'cachetlaw12.ColumnForms', WHERE WHAT IT READS IS OF BULK AT MOST 1048576: true; the input reads as it did. -/
def columnFormsUptoRow : OpenClaim := { program := "ythpnhodpfhagaaa", sum := "a9a892e833e9f605d47e41705a69d83eb9d84a4c7277dfdece11d0ed15a8ea5c", func := "cachet/cachetlaw12.ColumnForms", spec := "columnForms", inPlace := ["internal/abi.NoEscape"], apart := false, narrowed := true }
def ColumnFormsUptoSaid : Prop := columnFormsUptoRow.holds Try.pinned (OpenSpec.upto columnFormsSpec)

/-- 'cachetlaw13.SegmentPuts', WHERE WHAT IT READS IS OF BULK AT MOST 1048576: true; the input reads as it did. -/
def segmentPutsUptoRow : OpenClaim := { program := "ythpnhodpfhagaaa", sum := "a9a892e833e9f605d47e41705a69d83eb9d84a4c7277dfdece11d0ed15a8ea5c", func := "cachet/cachetlaw13.SegmentPuts", spec := "segmentPuts", inPlace := ["internal/bytealg.abigen_runtime_cmpstring", "internal/abi.NoEscape"], apart := false, narrowed := true }
def SegmentPutsUptoSaid : Prop := segmentPutsUptoRow.holds Try.pinned (OpenSpec.upto segmentPutsSpec)

/-- 'cachetlaw13.SegmentGets', WHERE WHAT IT READS IS OF BULK AT MOST 1048576: true; the input reads as it did. -/
def segmentGetsUptoRow : OpenClaim := { program := "ythpnhodpfhagaaa", sum := "a9a892e833e9f605d47e41705a69d83eb9d84a4c7277dfdece11d0ed15a8ea5c", func := "cachet/cachetlaw13.SegmentGets", spec := "segmentGets", inPlace := ["internal/bytealg.abigen_runtime_cmpstring", "internal/abi.NoEscape"], apart := false, narrowed := true }
def SegmentGetsUptoSaid : Prop := segmentGetsUptoRow.holds Try.pinned (OpenSpec.upto segmentGetsSpec)

/-- 'cachetlaw13.SegmentBack', WHERE WHAT IT READS IS OF BULK AT MOST 1048576: true; the input reads as it did. -/
def segmentBackUptoRow : OpenClaim := { program := "ythpnhodpfhagaaa", sum := "a9a892e833e9f605d47e41705a69d83eb9d84a4c7277dfdece11d0ed15a8ea5c", func := "cachet/cachetlaw13.SegmentBack", spec := "segmentBack", inPlace := ["internal/bytealg.abigen_runtime_cmpstring", "internal/abi.NoEscape"], apart := false, narrowed := true }
def SegmentBackUptoSaid : Prop := segmentBackUptoRow.holds Try.pinned (OpenSpec.upto segmentBackSpec)

/-- 'cachetlaw13.SegmentRows', WHERE WHAT IT READS IS OF BULK AT MOST 1048576: true; the input reads as it did. -/
def segmentRowsUptoRow : OpenClaim := { program := "ythpnhodpfhagaaa", sum := "a9a892e833e9f605d47e41705a69d83eb9d84a4c7277dfdece11d0ed15a8ea5c", func := "cachet/cachetlaw13.SegmentRows", spec := "segmentRows", inPlace := ["internal/bytealg.abigen_runtime_cmpstring", "internal/abi.NoEscape"], apart := false, narrowed := true }
def SegmentRowsUptoSaid : Prop := segmentRowsUptoRow.holds Try.pinned (OpenSpec.upto segmentRowsSpec)

/-- 'cachetlaw13.SegmentRanges', WHERE WHAT IT READS IS OF BULK AT MOST 1048576: true; the input reads as it did. -/
def segmentRangesUptoRow : OpenClaim := { program := "ythpnhodpfhagaaa", sum := "a9a892e833e9f605d47e41705a69d83eb9d84a4c7277dfdece11d0ed15a8ea5c", func := "cachet/cachetlaw13.SegmentRanges", spec := "segmentRanges", inPlace := ["internal/bytealg.abigen_runtime_cmpstring", "internal/abi.NoEscape"], apart := false, narrowed := true }
def SegmentRangesUptoSaid : Prop := segmentRangesUptoRow.holds Try.pinned (OpenSpec.upto segmentRangesSpec)

/-- 'cachetlaw13.SegmentCuts', WHERE WHAT IT READS IS OF BULK AT MOST 1048576: true; the input reads as it did. -/
def segmentCutsUptoRow : OpenClaim := { program := "ythpnhodpfhagaaa", sum := "a9a892e833e9f605d47e41705a69d83eb9d84a4c7277dfdece11d0ed15a8ea5c", func := "cachet/cachetlaw13.SegmentCuts", spec := "segmentCuts", inPlace := ["internal/bytealg.abigen_runtime_cmpstring", "internal/abi.NoEscape"], apart := false, narrowed := true }
def SegmentCutsUptoSaid : Prop := segmentCutsUptoRow.holds Try.pinned (OpenSpec.upto segmentCutsSpec)

end Rows
end Go.Proofs.Ythpnhodpfhagaaa
