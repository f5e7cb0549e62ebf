/-
  No cell of these rows narrows 'for every input' (looked for: loops, veiled, ifaces, maps, wideKeys, modest, calm, conditions, laid).
  DERIVED. THE GIVEN ROWS OF THIS SEAT. 5 by the template 'for every input the law returns true; each argument reads behind the call as it read before'; 0 by the template 'total and deterministic' (their statements: YtcchekmejnhlmaaGreatTotals.lean).
  GIVEN WITH THE SEED: the statements are not yours to turn. If you find one false, say at which input.
  Laid BY PROGRAM, IN A SANDBOX (cutbox-rows.mjs): the forced cells as the released guide's own fill.sh prints them over the translation af7092a4e02d59d0… (all of the seat's roots in one cut). By AI agents, Wed Nov 11 2026. No macro, syntax, notation, axiom, sorry.
-/
import Derived.Test.YtcchekmejnhlmaaGreatChecked
import GoSem.Claim
import GoSem.ClaimJoined
import GoSem.ClaimMapViews
import Derived.JoinedTies
import Derived.KernelRfl
namespace Go.Proofs.YtcchekmejnhlmaaGreat
/- THE CELL 'sum', in the pinned program and in every row, IS THE sha256 OF THE DUMP (.gsa) THAT YtcchekmejnhlmaaGreatProg.lean LOADS. Nothing in Lean hashes anything: it is a label: what it is worth is what the hold of that sum in a sandbox is worth. -/
noncomputable def Tryz.pinned : Pinned := { name := "ytcchekmejnhlmaagreat", sum := "af7092a4e02d59d0fcfad7008b5c02a9745963195a02a5d9d4f15963b3891b7c", checked := Tryz.checked }
namespace Rows
def none {H : Type} : Left H := { results := [], args := [] }

/-- 'cachettop.TopStale': WHATEVER THE INPUT: true; the input reads as it did. -/
def topStaleSpec : ChangeSpec := { name := "topStale", fn := fun _ => fun
  | [d] => { results := [.lit (.bool true)], args := [d] }
  | _ => none }
def topStaleRow : OpenClaim := { program := "ytcchekmejnhlmaagreat", sum := "af7092a4e02d59d0fcfad7008b5c02a9745963195a02a5d9d4f15963b3891b7c", func := "cachet/cachettop.TopStale", spec := "topStale", inPlace := ["internal/abi.NoEscape", "slices.overlaps[int]", "maps.clone", "slices.overlaps[cachet/api.Do]", "slices.overlaps[cachet/api.Row]", "internal/bytealg.abigen_runtime_cmpstring", "slices.overlaps[cachet/api.Point]"], unfollowed := true, recurses := true, apart := false }
def TopStaleSaid : Prop := topStaleRow.holds Tryz.pinned (OpenSpec.ofChange topStaleSpec)

/-- ITS FALSE NEIGHBOUR: 'it returns false'. Refute it at one input. -/
def topStaleWrong : ChangeSpec := { name := "topStale", fn := fun _ => fun
  | [d] => { results := [.lit (.bool false)], args := [d] }
  | _ => none }
def TopStaleWrongFalsely : Prop := topStaleRow.holds Tryz.pinned (OpenSpec.ofChange topStaleWrong)

/-- 'cachettop.TopExpired': WHATEVER THE INPUT: true; the input reads as it did. -/
def topExpiredSpec : ChangeSpec := { name := "topExpired", fn := fun _ => fun
  | [d] => { results := [.lit (.bool true)], args := [d] }
  | _ => none }
def topExpiredRow : OpenClaim := { program := "ytcchekmejnhlmaagreat", sum := "af7092a4e02d59d0fcfad7008b5c02a9745963195a02a5d9d4f15963b3891b7c", func := "cachet/cachettop.TopExpired", spec := "topExpired", inPlace := ["internal/abi.NoEscape", "slices.overlaps[int]", "maps.clone", "slices.overlaps[cachet/api.Do]", "slices.overlaps[cachet/api.Row]", "internal/bytealg.abigen_runtime_cmpstring", "slices.overlaps[cachet/api.Point]"], unfollowed := true, recurses := true, apart := false }
def TopExpiredSaid : Prop := topExpiredRow.holds Tryz.pinned (OpenSpec.ofChange topExpiredSpec)

/-- ITS FALSE NEIGHBOUR: 'it returns false'. Refute it at one input. -/
def topExpiredWrong : ChangeSpec := { name := "topExpired", fn := fun _ => fun
  | [d] => { results := [.lit (.bool false)], args := [d] }
  | _ => none }
def TopExpiredWrongFalsely : Prop := topExpiredRow.holds Tryz.pinned (OpenSpec.ofChange topExpiredWrong)

/-- 'cachettop.TopDoubles': WHATEVER THE INPUT: true; the input reads as it did. -/
def topDoublesSpec : ChangeSpec := { name := "topDoubles", fn := fun _ => fun
  | [d1, d2] => { results := [.lit (.bool true)], args := [d1, d2] }
  | _ => none }
def topDoublesRow : OpenClaim := { program := "ytcchekmejnhlmaagreat", sum := "af7092a4e02d59d0fcfad7008b5c02a9745963195a02a5d9d4f15963b3891b7c", func := "cachet/cachettop.TopDoubles", spec := "topDoubles", inPlace := ["internal/abi.NoEscape", "slices.overlaps[int]", "maps.clone", "slices.overlaps[cachet/api.Do]", "slices.overlaps[cachet/api.Row]", "internal/bytealg.abigen_runtime_cmpstring", "slices.overlaps[cachet/api.Point]"], unfollowed := true, recurses := true, apart := false }
def TopDoublesSaid : Prop := topDoublesRow.holds Tryz.pinned (OpenSpec.ofChange topDoublesSpec)

/-- ITS FALSE NEIGHBOUR: 'it returns false'. Refute it at one input. -/
def topDoublesWrong : ChangeSpec := { name := "topDoubles", fn := fun _ => fun
  | [d1, d2] => { results := [.lit (.bool false)], args := [d1, d2] }
  | _ => none }
def TopDoublesWrongFalsely : Prop := topDoublesRow.holds Tryz.pinned (OpenSpec.ofChange topDoublesWrong)

/-- 'cachettop.TopRepair': WHATEVER THE INPUT: true; the input reads as it did. -/
def topRepairSpec : ChangeSpec := { name := "topRepair", fn := fun _ => fun
  | [d1, d2, d3] => { results := [.lit (.bool true)], args := [d1, d2, d3] }
  | _ => none }
def topRepairRow : OpenClaim := { program := "ytcchekmejnhlmaagreat", sum := "af7092a4e02d59d0fcfad7008b5c02a9745963195a02a5d9d4f15963b3891b7c", func := "cachet/cachettop.TopRepair", spec := "topRepair", inPlace := ["internal/abi.NoEscape", "slices.overlaps[int]", "maps.clone", "slices.overlaps[cachet/api.Do]", "slices.overlaps[cachet/api.Row]", "internal/bytealg.abigen_runtime_cmpstring", "slices.overlaps[cachet/api.Point]"], unfollowed := true, recurses := true, apart := false }
def TopRepairSaid : Prop := topRepairRow.holds Tryz.pinned (OpenSpec.ofChange topRepairSpec)

/-- ITS FALSE NEIGHBOUR: 'it returns false'. Refute it at one input. -/
def topRepairWrong : ChangeSpec := { name := "topRepair", fn := fun _ => fun
  | [d1, d2, d3] => { results := [.lit (.bool false)], args := [d1, d2, d3] }
  | _ => none }
def TopRepairWrongFalsely : Prop := topRepairRow.holds Tryz.pinned (OpenSpec.ofChange topRepairWrong)

/-- 'cachettop.TopBusy': WHATEVER THE INPUT: true; the input reads as it did. -/
def topBusySpec : ChangeSpec := { name := "topBusy", fn := fun _ => fun
  | [d] => { results := [.lit (.bool true)], args := [d] }
  | _ => none }
def topBusyRow : OpenClaim := { program := "ytcchekmejnhlmaagreat", sum := "af7092a4e02d59d0fcfad7008b5c02a9745963195a02a5d9d4f15963b3891b7c", func := "cachet/cachettop.TopBusy", spec := "topBusy", inPlace := ["internal/abi.NoEscape", "slices.overlaps[int]", "maps.clone", "slices.overlaps[cachet/api.Do]", "slices.overlaps[cachet/api.Row]", "internal/bytealg.abigen_runtime_cmpstring", "slices.overlaps[cachet/api.Point]"], unfollowed := true, recurses := true, apart := false }
def TopBusySaid : Prop := topBusyRow.holds Tryz.pinned (OpenSpec.ofChange topBusySpec)

/-- ITS FALSE NEIGHBOUR: 'it returns false'. Refute it at one input. -/
def topBusyWrong : ChangeSpec := { name := "topBusy", fn := fun _ => fun
  | [d] => { results := [.lit (.bool false)], args := [d] }
  | _ => none }
def TopBusyWrongFalsely : Prop := topBusyRow.holds Tryz.pinned (OpenSpec.ofChange topBusyWrong)

/- THE SECOND FORM. 'bulk': how many values and letters a reading holds, each counted each time it is reached (what is shared counts as often as it is met; a slice's spare places count too). A statement '..UptoSaid' is the law's where the arguments, and the package variables that the reading takes, are together of bulk at most 1048576: NARROWER than '..Said'. Prove '..Said' where nothing that the law and all that it calls make is longer than what came in: it says more and counts as full. Else prove '..UptoSaid'. A law counts once. -/
mutual
def uptoBulk {H : Type} : DataW H → Nat
  | .lit (.string bytes) => bytes.length + 1
  | .lit _ => 1
  | .nil => 1
  | .ptr d => uptoBulk d + 1
  | .slice elems spare => uptoBulkAll elems + uptoBulkAll spare + 1
  | .agg parts => uptoBulkAll parts + 1
  | .iface _ d => uptoBulk d + 1
  | .map entries => uptoBulkEntries entries + 1
  | .held _ => 1
def uptoBulkAll {H : Type} : List (DataW H) → Nat
  | [] => 0
  | d :: r => uptoBulk d + uptoBulkAll r
def uptoBulkEntries {H : Type} : List (Lit × DataW H) → Nat
  | [] => 0
  | x :: r => uptoBulkEntry x + uptoBulkEntries r
def uptoBulkEntry {H : Type} : Lit × DataW H → Nat
  | (.string bytes, d) => bytes.length + uptoBulk d + 1
  | (_, d) => uptoBulk d + 1
 end
def uptoSmall : (H : Type) → List (DataW H) → Bool := fun _ ds => decide (uptoBulkAll ds ≤ 1048576)
def OpenSpec.upto (s : _root_.Go.ChangeSpec) : _root_.Go.OpenSpec := { _root_.Go.OpenSpec.ofChange s with cond := some uptoSmall }

/-- 'cachettop.TopStale', WHERE WHAT IT READS IS OF BULK AT MOST 1048576: true; the input reads as it did. -/
def topStaleUptoRow : OpenClaim := { program := "ytcchekmejnhlmaagreat", sum := "af7092a4e02d59d0fcfad7008b5c02a9745963195a02a5d9d4f15963b3891b7c", func := "cachet/cachettop.TopStale", spec := "topStale", inPlace := ["internal/abi.NoEscape", "slices.overlaps[int]", "maps.clone", "slices.overlaps[cachet/api.Do]", "slices.overlaps[cachet/api.Row]", "internal/bytealg.abigen_runtime_cmpstring", "slices.overlaps[cachet/api.Point]"], unfollowed := true, recurses := true, apart := false, narrowed := true }
def TopStaleUptoSaid : Prop := topStaleUptoRow.holds Tryz.pinned (OpenSpec.upto topStaleSpec)

/-- 'cachettop.TopExpired', WHERE WHAT IT READS IS OF BULK AT MOST 1048576: true; the input reads as it did. -/
def topExpiredUptoRow : OpenClaim := { program := "ytcchekmejnhlmaagreat", sum := "af7092a4e02d59d0fcfad7008b5c02a9745963195a02a5d9d4f15963b3891b7c", func := "cachet/cachettop.TopExpired", spec := "topExpired", inPlace := ["internal/abi.NoEscape", "slices.overlaps[int]", "maps.clone", "slices.overlaps[cachet/api.Do]", "slices.overlaps[cachet/api.Row]", "internal/bytealg.abigen_runtime_cmpstring", "slices.overlaps[cachet/api.Point]"], unfollowed := true, recurses := true, apart := false, narrowed := true }
def TopExpiredUptoSaid : Prop := topExpiredUptoRow.holds Tryz.pinned (OpenSpec.upto topExpiredSpec)

/-- 'cachettop.TopDoubles', WHERE WHAT IT READS IS OF BULK AT MOST 1048576: true; the input reads as it did. -/
def topDoublesUptoRow : OpenClaim := { program := "ytcchekmejnhlmaagreat", sum := "af7092a4e02d59d0fcfad7008b5c02a9745963195a02a5d9d4f15963b3891b7c", func := "cachet/cachettop.TopDoubles", spec := "topDoubles", inPlace := ["internal/abi.NoEscape", "slices.overlaps[int]", "maps.clone", "slices.overlaps[cachet/api.Do]", "slices.overlaps[cachet/api.Row]", "internal/bytealg.abigen_runtime_cmpstring", "slices.overlaps[cachet/api.Point]"], unfollowed := true, recurses := true, apart := false, narrowed := true }
def TopDoublesUptoSaid : Prop := topDoublesUptoRow.holds Tryz.pinned (OpenSpec.upto topDoublesSpec)

/-- 'cachettop.TopRepair', WHERE WHAT IT READS IS OF BULK AT MOST 1048576: true; the input reads as it did. -/
def topRepairUptoRow : OpenClaim := { program := "ytcchekmejnhlmaagreat", sum := "af7092a4e02d59d0fcfad7008b5c02a9745963195a02a5d9d4f15963b3891b7c", func := "cachet/cachettop.TopRepair", spec := "topRepair", inPlace := ["internal/abi.NoEscape", "slices.overlaps[int]", "maps.clone", "slices.overlaps[cachet/api.Do]", "slices.overlaps[cachet/api.Row]", "internal/bytealg.abigen_runtime_cmpstring", "slices.overlaps[cachet/api.Point]"], unfollowed := true, recurses := true, apart := false, narrowed := true }
def TopRepairUptoSaid : Prop := topRepairUptoRow.holds Tryz.pinned (OpenSpec.upto topRepairSpec)

/-- 'cachettop.TopBusy', WHERE WHAT IT READS IS OF BULK AT MOST 1048576: true; the input reads as it did. -/
def topBusyUptoRow : OpenClaim := { program := "ytcchekmejnhlmaagreat", sum := "af7092a4e02d59d0fcfad7008b5c02a9745963195a02a5d9d4f15963b3891b7c", func := "cachet/cachettop.TopBusy", spec := "topBusy", inPlace := ["internal/abi.NoEscape", "slices.overlaps[int]", "maps.clone", "slices.overlaps[cachet/api.Do]", "slices.overlaps[cachet/api.Row]", "internal/bytealg.abigen_runtime_cmpstring", "slices.overlaps[cachet/api.Point]"], unfollowed := true, recurses := true, apart := false, narrowed := true }
def TopBusyUptoSaid : Prop := topBusyUptoRow.holds Tryz.pinned (OpenSpec.upto topBusySpec)

end Rows
end Go.Proofs.YtcchekmejnhlmaaGreat
