/-
  No cell of these rows narrows 'for every input' (looked for: loops, veiled, ifaces, maps, wideKeys, modest, calm, conditions, laid).
  DERIVED. THE GIVEN ROWS OF THIS SEAT. 4 by the template 'for every input the law returns true; each argument reads behind the call as it read before'; 0 by the template 'total and deterministic' (their statements: YtkfekkhhfpkfaaaGreatTotals.lean).
  GIVEN WITH THE SEED: the statements are not yours to turn. If you find one false, say at which input.
  Laid BY PROGRAM, IN A SANDBOX (cutbox-rows.mjs): the forced cells as the released guide's own fill.sh prints them over the translation a67508817214b8d0… (all of the seat's roots in one cut). By AI agents, Wed Nov 11 2026. No macro, syntax, notation, axiom, sorry.
-/
import Derived.Test.YtkfekkhhfpkfaaaGreatChecked
import GoSem.Claim
import GoSem.ClaimJoined
import GoSem.ClaimMapViews
import Derived.JoinedTies
import Derived.KernelRfl
namespace Go.Proofs.YtkfekkhhfpkfaaaGreat
/- THE CELL 'sum', in the pinned program and in every row, IS THE sha256 OF THE DUMP (.gsa) THAT YtkfekkhhfpkfaaaGreatProg.lean LOADS. Nothing in Lean hashes anything: it is a label: what it is worth is what the hold of that sum in a sandbox is worth. -/
noncomputable def Tryz.pinned : Pinned := { name := "ytkfekkhhfpkfaaagreat", sum := "a67508817214b8d0bd597789d8b9fab26b2b885102223888978d365c88efd8da", checked := Tryz.checked }
namespace Rows
def none {H : Type} : Left H := { results := [], args := [] }

/-- 'wingworkslaw07.ScanRings': WHATEVER THE INPUT: true; the input reads as it did. -/
def scanRingsSpec : ChangeSpec := { name := "scanRings", fn := fun _ => fun
  | [d1, d2] => { results := [.lit (.bool true)], args := [d1, d2] }
  | _ => none }
def scanRingsRow : OpenClaim := { program := "ytkfekkhhfpkfaaagreat", sum := "a67508817214b8d0bd597789d8b9fab26b2b885102223888978d365c88efd8da", func := "wingworks/wingworkslaw07.ScanRings", spec := "scanRings", inPlace := ["math/bits.Add64", "math/bits.Sub64", "math.Float64bits", "math.Float64frombits", "internal/abi.NoEscape", "internal/bytealg.MakeNoZero"], unfollowed := true, recurses := true, named := ["math/bits.divideError", "math/bits.overflowError"], apart := false }
def ScanRingsSaid : Prop := scanRingsRow.holds Tryz.pinned (OpenSpec.ofChange scanRingsSpec)

/-- ITS FALSE NEIGHBOUR: 'it returns false'. Refute it at one input. -/
def scanRingsWrong : ChangeSpec := { name := "scanRings", fn := fun _ => fun
  | [d1, d2] => { results := [.lit (.bool false)], args := [d1, d2] }
  | _ => none }
def ScanRingsWrongFalsely : Prop := scanRingsRow.holds Tryz.pinned (OpenSpec.ofChange scanRingsWrong)

/-- 'wingworkslaw07.ScanPeaks': WHATEVER THE INPUT: true; the input reads as it did. -/
def scanPeaksSpec : ChangeSpec := { name := "scanPeaks", fn := fun _ => fun
  | [d1, d2, d3, d4, d5] => { results := [.lit (.bool true)], args := [d1, d2, d3, d4, d5] }
  | _ => none }
def scanPeaksRow : OpenClaim := { program := "ytkfekkhhfpkfaaagreat", sum := "a67508817214b8d0bd597789d8b9fab26b2b885102223888978d365c88efd8da", func := "wingworks/wingworkslaw07.ScanPeaks", spec := "scanPeaks", inPlace := ["math/bits.Add64", "math/bits.Sub64", "math.Float64bits", "math.Float64frombits", "internal/abi.NoEscape", "internal/bytealg.MakeNoZero", "math.Float32bits"], unfollowed := true, recurses := true, named := ["math/bits.divideError", "math/bits.overflowError"], apart := false }
def ScanPeaksSaid : Prop := scanPeaksRow.holds Tryz.pinned (OpenSpec.ofChange scanPeaksSpec)

/-- ITS FALSE NEIGHBOUR: 'it returns false'. Refute it at one input. -/
def scanPeaksWrong : ChangeSpec := { name := "scanPeaks", fn := fun _ => fun
  | [d1, d2, d3, d4, d5] => { results := [.lit (.bool false)], args := [d1, d2, d3, d4, d5] }
  | _ => none }
def ScanPeaksWrongFalsely : Prop := scanPeaksRow.holds Tryz.pinned (OpenSpec.ofChange scanPeaksWrong)

/-- 'wingworkslaw07.ScanTables': WHATEVER THE INPUT: true; the input reads as it did. -/
def scanTablesSpec : ChangeSpec := { name := "scanTables", fn := fun _ => fun
  | [d1, d2, d3, d4] => { results := [.lit (.bool true)], args := [d1, d2, d3, d4] }
  | _ => none }
def scanTablesRow : OpenClaim := { program := "ytkfekkhhfpkfaaagreat", sum := "a67508817214b8d0bd597789d8b9fab26b2b885102223888978d365c88efd8da", func := "wingworks/wingworkslaw07.ScanTables", spec := "scanTables", inPlace := ["math/bits.Add64", "math/bits.Sub64", "math.Float64bits", "math.Float64frombits", "internal/abi.NoEscape", "internal/bytealg.MakeNoZero"], unfollowed := true, recurses := true, named := ["math/bits.divideError", "math/bits.overflowError"], apart := false }
def ScanTablesSaid : Prop := scanTablesRow.holds Tryz.pinned (OpenSpec.ofChange scanTablesSpec)

/-- ITS FALSE NEIGHBOUR: 'it returns false'. Refute it at one input. -/
def scanTablesWrong : ChangeSpec := { name := "scanTables", fn := fun _ => fun
  | [d1, d2, d3, d4] => { results := [.lit (.bool false)], args := [d1, d2, d3, d4] }
  | _ => none }
def ScanTablesWrongFalsely : Prop := scanTablesRow.holds Tryz.pinned (OpenSpec.ofChange scanTablesWrong)

/-- 'wingworkslaw07.ScanReflects': WHATEVER THE INPUT: true; the input reads as it did. -/
def scanReflectsSpec : ChangeSpec := { name := "scanReflects", fn := fun _ => fun
  | [d1, d2] => { results := [.lit (.bool true)], args := [d1, d2] }
  | _ => none }
def scanReflectsRow : OpenClaim := { program := "ytkfekkhhfpkfaaagreat", sum := "a67508817214b8d0bd597789d8b9fab26b2b885102223888978d365c88efd8da", func := "wingworks/wingworkslaw07.ScanReflects", spec := "scanReflects", inPlace := ["math/bits.Add64", "math/bits.Sub64", "math.Float64bits", "math.Float64frombits", "internal/abi.NoEscape", "internal/bytealg.MakeNoZero"], unfollowed := true, recurses := true, named := ["math/bits.divideError", "math/bits.overflowError"], apart := false }
def ScanReflectsSaid : Prop := scanReflectsRow.holds Tryz.pinned (OpenSpec.ofChange scanReflectsSpec)

/-- ITS FALSE NEIGHBOUR: 'it returns false'. Refute it at one input. -/
def scanReflectsWrong : ChangeSpec := { name := "scanReflects", fn := fun _ => fun
  | [d1, d2] => { results := [.lit (.bool false)], args := [d1, d2] }
  | _ => none }
def ScanReflectsWrongFalsely : Prop := scanReflectsRow.holds Tryz.pinned (OpenSpec.ofChange scanReflectsWrong)

/- THE SECOND FORM. 'bulk': how many values and letters a reading holds, each counted each time it is reached (what is shared counts as often as it is met; a slice's spare places count too). A statement '..UptoSaid' is the law's where the arguments, and the package variables that the reading takes, are together of bulk at most 1048576: NARROWER than '..Said'. Prove '..Said' where nothing that the law and all that it calls make is longer than what came in: it says more and counts as full. Else prove '..UptoSaid'. A law counts once. -/
mutual
def uptoBulk {H : Type} : DataW H → Nat
  | .lit (.string bytes) => bytes.length + 1
  | .lit _ => 1
  | .nil => 1
  | .ptr d => uptoBulk d + 1
  | .slice elems spare => uptoBulkAll elems + uptoBulkAll spare + 1
  | .agg parts => uptoBulkAll parts + 1
  | .iface _ d => uptoBulk d + 1
  | .map entries => uptoBulkEntries entries + 1
  | .held _ => 1
def uptoBulkAll {H : Type} : List (DataW H) → Nat
  | [] => 0
  | d :: r => uptoBulk d + uptoBulkAll r
def uptoBulkEntries {H : Type} : List (Lit × DataW H) → Nat
  | [] => 0
  | x :: r => uptoBulkEntry x + uptoBulkEntries r
def uptoBulkEntry {H : Type} : Lit × DataW H → Nat
  | (.string bytes, d) => bytes.length + uptoBulk d + 1
  | (_, d) => uptoBulk d + 1
 end
def uptoSmall : (H : Type) → List (DataW H) → Bool := fun _ ds => decide (uptoBulkAll ds ≤ 1048576)
def OpenSpec.upto (s : _root_.Go.ChangeSpec) : _root_.Go.OpenSpec := { _root_.Go.OpenSpec.ofChange s with cond := some uptoSmall }

/-- 'wingworkslaw07.ScanRings', WHERE WHAT IT READS IS OF BULK AT MOST 1048576: true; the input reads as it did. -/
def scanRingsUptoRow : OpenClaim := { program := "ytkfekkhhfpkfaaagreat", sum := "a67508817214b8d0bd597789d8b9fab26b2b885102223888978d365c88efd8da", func := "wingworks/wingworkslaw07.ScanRings", spec := "scanRings", inPlace := ["math/bits.Add64", "math/bits.Sub64", "math.Float64bits", "math.Float64frombits", "internal/abi.NoEscape", "internal/bytealg.MakeNoZero"], unfollowed := true, recurses := true, named := ["math/bits.divideError", "math/bits.overflowError"], apart := false, narrowed := true }
def ScanRingsUptoSaid : Prop := scanRingsUptoRow.holds Tryz.pinned (OpenSpec.upto scanRingsSpec)

/-- 'wingworkslaw07.ScanPeaks', WHERE WHAT IT READS IS OF BULK AT MOST 1048576: true; the input reads as it did. -/
def scanPeaksUptoRow : OpenClaim := { program := "ytkfekkhhfpkfaaagreat", sum := "a67508817214b8d0bd597789d8b9fab26b2b885102223888978d365c88efd8da", func := "wingworks/wingworkslaw07.ScanPeaks", spec := "scanPeaks", inPlace := ["math/bits.Add64", "math/bits.Sub64", "math.Float64bits", "math.Float64frombits", "internal/abi.NoEscape", "internal/bytealg.MakeNoZero", "math.Float32bits"], unfollowed := true, recurses := true, named := ["math/bits.divideError", "math/bits.overflowError"], apart := false, narrowed := true }
def ScanPeaksUptoSaid : Prop := scanPeaksUptoRow.holds Tryz.pinned (OpenSpec.upto scanPeaksSpec)

/-- 'wingworkslaw07.ScanTables', WHERE WHAT IT READS IS OF BULK AT MOST 1048576: true; the input reads as it did. -/
def scanTablesUptoRow : OpenClaim := { program := "ytkfekkhhfpkfaaagreat", sum := "a67508817214b8d0bd597789d8b9fab26b2b885102223888978d365c88efd8da", func := "wingworks/wingworkslaw07.ScanTables", spec := "scanTables", inPlace := ["math/bits.Add64", "math/bits.Sub64", "math.Float64bits", "math.Float64frombits", "internal/abi.NoEscape", "internal/bytealg.MakeNoZero"], unfollowed := true, recurses := true, named := ["math/bits.divideError", "math/bits.overflowError"], apart := false, narrowed := true }
def ScanTablesUptoSaid : Prop := scanTablesUptoRow.holds Tryz.pinned (OpenSpec.upto scanTablesSpec)

/-- 'wingworkslaw07.ScanReflects', WHERE WHAT IT READS IS OF BULK AT MOST 1048576: true; the input reads as it did. -/
def scanReflectsUptoRow : OpenClaim := { program := "ytkfekkhhfpkfaaagreat", sum := "a67508817214b8d0bd597789d8b9fab26b2b885102223888978d365c88efd8da", func := "wingworks/wingworkslaw07.ScanReflects", spec := "scanReflects", inPlace := ["math/bits.Add64", "math/bits.Sub64", "math.Float64bits", "math.Float64frombits", "internal/abi.NoEscape", "internal/bytealg.MakeNoZero"], unfollowed := true, recurses := true, named := ["math/bits.divideError", "math/bits.overflowError"], apart := false, narrowed := true }
def ScanReflectsUptoSaid : Prop := scanReflectsUptoRow.holds Tryz.pinned (OpenSpec.upto scanReflectsSpec)

end Rows
end Go.Proofs.YtkfekkhhfpkfaaaGreat
