/-
  No cell of these rows narrows 'for every input' (looked for: loops, veiled, ifaces, maps, wideKeys, modest, calm, conditions, laid).
  DERIVED. THE GIVEN ROWS OF THIS SEAT. 8 by the template 'for every input the law returns true; each argument reads behind the call as it read before'; 0 by the template 'total and deterministic' (their statements: YtlfnapfnpkhggaaGreatTotals.lean).
  GIVEN WITH THE SEED: the statements are not yours to turn. If you find one false, say at which input.
  Laid BY PROGRAM, IN A SANDBOX (cutbox-rows.mjs): the forced cells as the released guide's own fill.sh prints them over the translation dcbfad24127cf458… (all of the seat's roots in one cut). By AI agents, Wed Nov 11 2026. No macro, syntax, notation, axiom, sorry.
-/
import Derived.Test.YtlfnapfnpkhggaaGreatChecked
import GoSem.Claim
import GoSem.ClaimJoined
import GoSem.ClaimMapViews
import Derived.JoinedTies
import Derived.KernelRfl
namespace Go.Proofs.YtlfnapfnpkhggaaGreat
/- THE CELL 'sum', in the pinned program and in every row, IS THE sha256 OF THE DUMP (.gsa) THAT YtlfnapfnpkhggaaGreatProg.lean LOADS. Nothing in Lean hashes anything: it is a label: what it is worth is what the hold of that sum in a sandbox is worth. -/
noncomputable def Tryz.pinned : Pinned := { name := "ytlfnapfnpkhggaagreat", sum := "dcbfad24127cf458e809970c48424cdb9571e09cb10eda9f38e413868e8a8cd6", checked := Tryz.checked }
namespace Rows
def none {H : Type} : Left H := { results := [], args := [] }

/-- 'wingworkslaw07.ScanEchoes': WHATEVER THE INPUT: true; the input reads as it did. -/
def scanEchoesSpec : ChangeSpec := { name := "scanEchoes", fn := fun _ => fun
  | [d] => { results := [.lit (.bool true)], args := [d] }
  | _ => none }
def scanEchoesRow : OpenClaim := { program := "ytlfnapfnpkhggaagreat", sum := "dcbfad24127cf458e809970c48424cdb9571e09cb10eda9f38e413868e8a8cd6", func := "wingworks/wingworkslaw07.ScanEchoes", spec := "scanEchoes", inPlace := ["math/bits.Add64", "math/bits.Sub64", "math.Float64bits", "math.Float64frombits", "internal/abi.NoEscape", "internal/bytealg.MakeNoZero"], unfollowed := true, recurses := true, named := ["math/bits.divideError", "math/bits.overflowError"], apart := false }
def ScanEchoesSaid : Prop := scanEchoesRow.holds Tryz.pinned (OpenSpec.ofChange scanEchoesSpec)

/-- ITS FALSE NEIGHBOUR: 'it returns false'. Refute it at one input. -/
def scanEchoesWrong : ChangeSpec := { name := "scanEchoes", fn := fun _ => fun
  | [d] => { results := [.lit (.bool false)], args := [d] }
  | _ => none }
def ScanEchoesWrongFalsely : Prop := scanEchoesRow.holds Tryz.pinned (OpenSpec.ofChange scanEchoesWrong)

/-- 'wingworkslaw07.ScanPeaks': WHATEVER THE INPUT: true; the input reads as it did. -/
def scanPeaksSpec : ChangeSpec := { name := "scanPeaks", fn := fun _ => fun
  | [d1, d2, d3, d4, d5] => { results := [.lit (.bool true)], args := [d1, d2, d3, d4, d5] }
  | _ => none }
def scanPeaksRow : OpenClaim := { program := "ytlfnapfnpkhggaagreat", sum := "dcbfad24127cf458e809970c48424cdb9571e09cb10eda9f38e413868e8a8cd6", func := "wingworks/wingworkslaw07.ScanPeaks", spec := "scanPeaks", inPlace := ["math/bits.Add64", "math/bits.Sub64", "math.Float64bits", "math.Float64frombits", "internal/abi.NoEscape", "internal/bytealg.MakeNoZero", "math.Float32bits"], unfollowed := true, recurses := true, named := ["math/bits.divideError", "math/bits.overflowError"], apart := false }
def ScanPeaksSaid : Prop := scanPeaksRow.holds Tryz.pinned (OpenSpec.ofChange scanPeaksSpec)

/-- ITS FALSE NEIGHBOUR: 'it returns false'. Refute it at one input. -/
def scanPeaksWrong : ChangeSpec := { name := "scanPeaks", fn := fun _ => fun
  | [d1, d2, d3, d4, d5] => { results := [.lit (.bool false)], args := [d1, d2, d3, d4, d5] }
  | _ => none }
def ScanPeaksWrongFalsely : Prop := scanPeaksRow.holds Tryz.pinned (OpenSpec.ofChange scanPeaksWrong)

/-- 'wingworkslaw07.ScanRings': WHATEVER THE INPUT: true; the input reads as it did. -/
def scanRingsSpec : ChangeSpec := { name := "scanRings", fn := fun _ => fun
  | [d1, d2] => { results := [.lit (.bool true)], args := [d1, d2] }
  | _ => none }
def scanRingsRow : OpenClaim := { program := "ytlfnapfnpkhggaagreat", sum := "dcbfad24127cf458e809970c48424cdb9571e09cb10eda9f38e413868e8a8cd6", func := "wingworks/wingworkslaw07.ScanRings", spec := "scanRings", inPlace := ["math/bits.Add64", "math/bits.Sub64", "math.Float64bits", "math.Float64frombits", "internal/abi.NoEscape", "internal/bytealg.MakeNoZero"], unfollowed := true, recurses := true, named := ["math/bits.divideError", "math/bits.overflowError"], apart := false }
def ScanRingsSaid : Prop := scanRingsRow.holds Tryz.pinned (OpenSpec.ofChange scanRingsSpec)

/-- ITS FALSE NEIGHBOUR: 'it returns false'. Refute it at one input. -/
def scanRingsWrong : ChangeSpec := { name := "scanRings", fn := fun _ => fun
  | [d1, d2] => { results := [.lit (.bool false)], args := [d1, d2] }
  | _ => none }
def ScanRingsWrongFalsely : Prop := scanRingsRow.holds Tryz.pinned (OpenSpec.ofChange scanRingsWrong)

/-- 'wingworkslaw07.ScanPlies': WHATEVER THE INPUT: true; the input reads as it did. -/
def scanPliesSpec : ChangeSpec := { name := "scanPlies", fn := fun _ => fun
  | [d1, d2, d3] => { results := [.lit (.bool true)], args := [d1, d2, d3] }
  | _ => none }
def scanPliesRow : OpenClaim := { program := "ytlfnapfnpkhggaagreat", sum := "dcbfad24127cf458e809970c48424cdb9571e09cb10eda9f38e413868e8a8cd6", func := "wingworks/wingworkslaw07.ScanPlies", spec := "scanPlies", inPlace := ["math/bits.Add64", "math/bits.Sub64", "math.Float64bits", "math.Float64frombits", "internal/abi.NoEscape", "internal/bytealg.MakeNoZero"], unfollowed := true, recurses := true, named := ["math/bits.divideError", "math/bits.overflowError"], apart := false }
def ScanPliesSaid : Prop := scanPliesRow.holds Tryz.pinned (OpenSpec.ofChange scanPliesSpec)

/-- ITS FALSE NEIGHBOUR: 'it returns false'. Refute it at one input. -/
def scanPliesWrong : ChangeSpec := { name := "scanPlies", fn := fun _ => fun
  | [d1, d2, d3] => { results := [.lit (.bool false)], args := [d1, d2, d3] }
  | _ => none }
def ScanPliesWrongFalsely : Prop := scanPliesRow.holds Tryz.pinned (OpenSpec.ofChange scanPliesWrong)

/-- 'wingworkslaw07.ScanDepths': WHATEVER THE INPUT: true; the input reads as it did. -/
def scanDepthsSpec : ChangeSpec := { name := "scanDepths", fn := fun _ => fun
  | [d1, d2, d3, d4] => { results := [.lit (.bool true)], args := [d1, d2, d3, d4] }
  | _ => none }
def scanDepthsRow : OpenClaim := { program := "ytlfnapfnpkhggaagreat", sum := "dcbfad24127cf458e809970c48424cdb9571e09cb10eda9f38e413868e8a8cd6", func := "wingworks/wingworkslaw07.ScanDepths", spec := "scanDepths", inPlace := ["math/bits.Add64", "math/bits.Sub64", "math.Float64bits", "math.Float64frombits", "internal/abi.NoEscape", "internal/bytealg.MakeNoZero"], unfollowed := true, recurses := true, named := ["math/bits.divideError", "math/bits.overflowError"], apart := false }
def ScanDepthsSaid : Prop := scanDepthsRow.holds Tryz.pinned (OpenSpec.ofChange scanDepthsSpec)

/-- ITS FALSE NEIGHBOUR: 'it returns false'. Refute it at one input. -/
def scanDepthsWrong : ChangeSpec := { name := "scanDepths", fn := fun _ => fun
  | [d1, d2, d3, d4] => { results := [.lit (.bool false)], args := [d1, d2, d3, d4] }
  | _ => none }
def ScanDepthsWrongFalsely : Prop := scanDepthsRow.holds Tryz.pinned (OpenSpec.ofChange scanDepthsWrong)

/-- 'wingworkslaw07.ScanBetween': WHATEVER THE INPUT: true; the input reads as it did. -/
def scanBetweenSpec : ChangeSpec := { name := "scanBetween", fn := fun _ => fun
  | [d1, d2, d3, d4, d5] => { results := [.lit (.bool true)], args := [d1, d2, d3, d4, d5] }
  | _ => none }
def scanBetweenRow : OpenClaim := { program := "ytlfnapfnpkhggaagreat", sum := "dcbfad24127cf458e809970c48424cdb9571e09cb10eda9f38e413868e8a8cd6", func := "wingworks/wingworkslaw07.ScanBetween", spec := "scanBetween", inPlace := ["math/bits.Add64", "math/bits.Sub64", "math.Float64bits", "math.Float64frombits", "internal/abi.NoEscape", "internal/bytealg.MakeNoZero"], unfollowed := true, recurses := true, named := ["math/bits.divideError", "math/bits.overflowError"], apart := false }
def ScanBetweenSaid : Prop := scanBetweenRow.holds Tryz.pinned (OpenSpec.ofChange scanBetweenSpec)

/-- ITS FALSE NEIGHBOUR: 'it returns false'. Refute it at one input. -/
def scanBetweenWrong : ChangeSpec := { name := "scanBetween", fn := fun _ => fun
  | [d1, d2, d3, d4, d5] => { results := [.lit (.bool false)], args := [d1, d2, d3, d4, d5] }
  | _ => none }
def ScanBetweenWrongFalsely : Prop := scanBetweenRow.holds Tryz.pinned (OpenSpec.ofChange scanBetweenWrong)

/-- 'wingworkslaw07.ScanTables': WHATEVER THE INPUT: true; the input reads as it did. -/
def scanTablesSpec : ChangeSpec := { name := "scanTables", fn := fun _ => fun
  | [d1, d2, d3, d4] => { results := [.lit (.bool true)], args := [d1, d2, d3, d4] }
  | _ => none }
def scanTablesRow : OpenClaim := { program := "ytlfnapfnpkhggaagreat", sum := "dcbfad24127cf458e809970c48424cdb9571e09cb10eda9f38e413868e8a8cd6", func := "wingworks/wingworkslaw07.ScanTables", spec := "scanTables", inPlace := ["math/bits.Add64", "math/bits.Sub64", "math.Float64bits", "math.Float64frombits", "internal/abi.NoEscape", "internal/bytealg.MakeNoZero"], unfollowed := true, recurses := true, named := ["math/bits.divideError", "math/bits.overflowError"], apart := false }
def ScanTablesSaid : Prop := scanTablesRow.holds Tryz.pinned (OpenSpec.ofChange scanTablesSpec)

/-- ITS FALSE NEIGHBOUR: 'it returns false'. Refute it at one input. -/
def scanTablesWrong : ChangeSpec := { name := "scanTables", fn := fun _ => fun
  | [d1, d2, d3, d4] => { results := [.lit (.bool false)], args := [d1, d2, d3, d4] }
  | _ => none }
def ScanTablesWrongFalsely : Prop := scanTablesRow.holds Tryz.pinned (OpenSpec.ofChange scanTablesWrong)

/-- 'wingworkslaw07.ScanReflects': WHATEVER THE INPUT: true; the input reads as it did. -/
def scanReflectsSpec : ChangeSpec := { name := "scanReflects", fn := fun _ => fun
  | [d1, d2] => { results := [.lit (.bool true)], args := [d1, d2] }
  | _ => none }
def scanReflectsRow : OpenClaim := { program := "ytlfnapfnpkhggaagreat", sum := "dcbfad24127cf458e809970c48424cdb9571e09cb10eda9f38e413868e8a8cd6", func := "wingworks/wingworkslaw07.ScanReflects", spec := "scanReflects", inPlace := ["math/bits.Add64", "math/bits.Sub64", "math.Float64bits", "math.Float64frombits", "internal/abi.NoEscape", "internal/bytealg.MakeNoZero"], unfollowed := true, recurses := true, named := ["math/bits.divideError", "math/bits.overflowError"], apart := false }
def ScanReflectsSaid : Prop := scanReflectsRow.holds Tryz.pinned (OpenSpec.ofChange scanReflectsSpec)

/-- ITS FALSE NEIGHBOUR: 'it returns false'. Refute it at one input. -/
def scanReflectsWrong : ChangeSpec := { name := "scanReflects", fn := fun _ => fun
  | [d1, d2] => { results := [.lit (.bool false)], args := [d1, d2] }
  | _ => none }
def ScanReflectsWrongFalsely : Prop := scanReflectsRow.holds Tryz.pinned (OpenSpec.ofChange scanReflectsWrong)

/- THE SECOND FORM. 'bulk': how many values and letters a reading holds, each counted each time it is reached (what is shared counts as often as it is met; a slice's spare places count too). A statement '..UptoSaid' is the law's where the arguments, and the package variables that the reading takes, are together of bulk at most 1048576: NARROWER than '..Said'. Prove '..Said' where nothing that the law and all that it calls make is longer than what came in: it says more and counts as full. Else prove '..UptoSaid'. A law counts once. -/
mutual
def uptoBulk {H : Type} : DataW H → Nat
  | .lit (.string bytes) => bytes.length + 1
  | .lit _ => 1
  | .nil => 1
  | .ptr d => uptoBulk d + 1
  | .slice elems spare => uptoBulkAll elems + uptoBulkAll spare + 1
  | .agg parts => uptoBulkAll parts + 1
  | .iface _ d => uptoBulk d + 1
  | .map entries => uptoBulkEntries entries + 1
  | .held _ => 1
def uptoBulkAll {H : Type} : List (DataW H) → Nat
  | [] => 0
  | d :: r => uptoBulk d + uptoBulkAll r
def uptoBulkEntries {H : Type} : List (Lit × DataW H) → Nat
  | [] => 0
  | x :: r => uptoBulkEntry x + uptoBulkEntries r
def uptoBulkEntry {H : Type} : Lit × DataW H → Nat
  | (.string bytes, d) => bytes.length + uptoBulk d + 1
  | (_, d) => uptoBulk d + 1
 end
def uptoSmall : (H : Type) → List (DataW H) → Bool := fun _ ds => decide (uptoBulkAll ds ≤ 1048576)
def OpenSpec.upto (s : _root_.Go.ChangeSpec) : _root_.Go.OpenSpec := { _root_.Go.OpenSpec.ofChange s with cond := some uptoSmall }

/-- 'wingworkslaw07.ScanEchoes', WHERE WHAT IT READS IS OF BULK AT MOST 1048576: true; the input reads as it did. -/
def scanEchoesUptoRow : OpenClaim := { program := "ytlfnapfnpkhggaagreat", sum := "dcbfad24127cf458e809970c48424cdb9571e09cb10eda9f38e413868e8a8cd6", func := "wingworks/wingworkslaw07.ScanEchoes", spec := "scanEchoes", inPlace := ["math/bits.Add64", "math/bits.Sub64", "math.Float64bits", "math.Float64frombits", "internal/abi.NoEscape", "internal/bytealg.MakeNoZero"], unfollowed := true, recurses := true, named := ["math/bits.divideError", "math/bits.overflowError"], apart := false, narrowed := true }
def ScanEchoesUptoSaid : Prop := scanEchoesUptoRow.holds Tryz.pinned (OpenSpec.upto scanEchoesSpec)

/-- 'wingworkslaw07.ScanPeaks', WHERE WHAT IT READS IS OF BULK AT MOST 1048576: true; the input reads as it did. -/
def scanPeaksUptoRow : OpenClaim := { program := "ytlfnapfnpkhggaagreat", sum := "dcbfad24127cf458e809970c48424cdb9571e09cb10eda9f38e413868e8a8cd6", func := "wingworks/wingworkslaw07.ScanPeaks", spec := "scanPeaks", inPlace := ["math/bits.Add64", "math/bits.Sub64", "math.Float64bits", "math.Float64frombits", "internal/abi.NoEscape", "internal/bytealg.MakeNoZero", "math.Float32bits"], unfollowed := true, recurses := true, named := ["math/bits.divideError", "math/bits.overflowError"], apart := false, narrowed := true }
def ScanPeaksUptoSaid : Prop := scanPeaksUptoRow.holds Tryz.pinned (OpenSpec.upto scanPeaksSpec)

/-- 'wingworkslaw07.ScanRings', WHERE WHAT IT READS IS OF BULK AT MOST 1048576: true; the input reads as it did. -/
def scanRingsUptoRow : OpenClaim := { program := "ytlfnapfnpkhggaagreat", sum := "dcbfad24127cf458e809970c48424cdb9571e09cb10eda9f38e413868e8a8cd6", func := "wingworks/wingworkslaw07.ScanRings", spec := "scanRings", inPlace := ["math/bits.Add64", "math/bits.Sub64", "math.Float64bits", "math.Float64frombits", "internal/abi.NoEscape", "internal/bytealg.MakeNoZero"], unfollowed := true, recurses := true, named := ["math/bits.divideError", "math/bits.overflowError"], apart := false, narrowed := true }
def ScanRingsUptoSaid : Prop := scanRingsUptoRow.holds Tryz.pinned (OpenSpec.upto scanRingsSpec)

/-- 'wingworkslaw07.ScanPlies', WHERE WHAT IT READS IS OF BULK AT MOST 1048576: true; the input reads as it did. -/
def scanPliesUptoRow : OpenClaim := { program := "ytlfnapfnpkhggaagreat", sum := "dcbfad24127cf458e809970c48424cdb9571e09cb10eda9f38e413868e8a8cd6", func := "wingworks/wingworkslaw07.ScanPlies", spec := "scanPlies", inPlace := ["math/bits.Add64", "math/bits.Sub64", "math.Float64bits", "math.Float64frombits", "internal/abi.NoEscape", "internal/bytealg.MakeNoZero"], unfollowed := true, recurses := true, named := ["math/bits.divideError", "math/bits.overflowError"], apart := false, narrowed := true }
def ScanPliesUptoSaid : Prop := scanPliesUptoRow.holds Tryz.pinned (OpenSpec.upto scanPliesSpec)

/-- 'wingworkslaw07.ScanDepths', WHERE WHAT IT READS IS OF BULK AT MOST 1048576: true; the input reads as it did. -/
def scanDepthsUptoRow : OpenClaim := { program := "ytlfnapfnpkhggaagreat", sum := "dcbfad24127cf458e809970c48424cdb9571e09cb10eda9f38e413868e8a8cd6", func := "wingworks/wingworkslaw07.ScanDepths", spec := "scanDepths", inPlace := ["math/bits.Add64", "math/bits.Sub64", "math.Float64bits", "math.Float64frombits", "internal/abi.NoEscape", "internal/bytealg.MakeNoZero"], unfollowed := true, recurses := true, named := ["math/bits.divideError", "math/bits.overflowError"], apart := false, narrowed := true }
def ScanDepthsUptoSaid : Prop := scanDepthsUptoRow.holds Tryz.pinned (OpenSpec.upto scanDepthsSpec)

/-- 'wingworkslaw07.ScanBetween', WHERE WHAT IT READS IS OF BULK AT MOST 1048576: true; the input reads as it did. -/
def scanBetweenUptoRow : OpenClaim := { program := "ytlfnapfnpkhggaagreat", sum := "dcbfad24127cf458e809970c48424cdb9571e09cb10eda9f38e413868e8a8cd6", func := "wingworks/wingworkslaw07.ScanBetween", spec := "scanBetween", inPlace := ["math/bits.Add64", "math/bits.Sub64", "math.Float64bits", "math.Float64frombits", "internal/abi.NoEscape", "internal/bytealg.MakeNoZero"], unfollowed := true, recurses := true, named := ["math/bits.divideError", "math/bits.overflowError"], apart := false, narrowed := true }
def ScanBetweenUptoSaid : Prop := scanBetweenUptoRow.holds Tryz.pinned (OpenSpec.upto scanBetweenSpec)

/-- 'wingworkslaw07.ScanTables', WHERE WHAT IT READS IS OF BULK AT MOST 1048576: true; the input reads as it did. -/
def scanTablesUptoRow : OpenClaim := { program := "ytlfnapfnpkhggaagreat", sum := "dcbfad24127cf458e809970c48424cdb9571e09cb10eda9f38e413868e8a8cd6", func := "wingworks/wingworkslaw07.ScanTables", spec := "scanTables", inPlace := ["math/bits.Add64", "math/bits.Sub64", "math.Float64bits", "math.Float64frombits", "internal/abi.NoEscape", "internal/bytealg.MakeNoZero"], unfollowed := true, recurses := true, named := ["math/bits.divideError", "math/bits.overflowError"], apart := false, narrowed := true }
def ScanTablesUptoSaid : Prop := scanTablesUptoRow.holds Tryz.pinned (OpenSpec.upto scanTablesSpec)

/-- 'wingworkslaw07.ScanReflects', WHERE WHAT IT READS IS OF BULK AT MOST 1048576: true; the input reads as it did. -/
def scanReflectsUptoRow : OpenClaim := { program := "ytlfnapfnpkhggaagreat", sum := "dcbfad24127cf458e809970c48424cdb9571e09cb10eda9f38e413868e8a8cd6", func := "wingworks/wingworkslaw07.ScanReflects", spec := "scanReflects", inPlace := ["math/bits.Add64", "math/bits.Sub64", "math.Float64bits", "math.Float64frombits", "internal/abi.NoEscape", "internal/bytealg.MakeNoZero"], unfollowed := true, recurses := true, named := ["math/bits.divideError", "math/bits.overflowError"], apart := false, narrowed := true }
def ScanReflectsUptoSaid : Prop := scanReflectsUptoRow.holds Tryz.pinned (OpenSpec.upto scanReflectsSpec)

end Rows
end Go.Proofs.YtlfnapfnpkhggaaGreat
