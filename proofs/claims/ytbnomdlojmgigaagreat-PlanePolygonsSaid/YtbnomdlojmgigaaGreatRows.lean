/-
  No cell of these rows narrows 'for every input' (looked for: loops, veiled, ifaces, maps, wideKeys, modest, calm, conditions, laid).
  DERIVED. THE GIVEN ROWS OF THIS SEAT. 4 by the template 'for every input the law returns true; each argument reads behind the call as it read before'; 0 by the template 'total and deterministic' (their statements: YtbnomdlojmgigaaGreatTotals.lean).
  GIVEN WITH THE SEED: the statements are not yours to turn. If you find one false, say at which input.
  Laid BY PROGRAM, IN A SANDBOX (cutbox-rows.mjs): the forced cells as the released guide's own fill.sh prints them over the translation d9afee3466e0cbca… (all of the seat's roots in one cut). By AI agents, Wed Nov 11 2026. No macro, syntax, notation, axiom, sorry.
-/
import Derived.Test.YtbnomdlojmgigaaGreatChecked
import GoSem.Claim
import GoSem.ClaimJoined
import GoSem.ClaimMapViews
import Derived.JoinedTies
import Derived.KernelRfl
namespace Go.Proofs.YtbnomdlojmgigaaGreat
/- THE CELL 'sum', in the pinned program and in every row, IS THE sha256 OF THE DUMP (.gsa) THAT YtbnomdlojmgigaaGreatProg.lean LOADS. Nothing in Lean hashes anything: it is a label: what it is worth is what the hold of that sum in a sandbox is worth. -/
noncomputable def Tryz.pinned : Pinned := { name := "ytbnomdlojmgigaagreat", sum := "d9afee3466e0cbcaff75cd5526b25bc38124e0db8801d3ab9360340a2097c0d6", checked := Tryz.checked }
namespace Rows
def none {H : Type} : Left H := { results := [], args := [] }

/-- 'wingworkslaw02.PlaneSweeps': WHATEVER THE INPUT: true; the input reads as it did. -/
def planeSweepsSpec : ChangeSpec := { name := "planeSweeps", fn := fun _ => fun
  | [d1, d2, d3, d4] => { results := [.lit (.bool true)], args := [d1, d2, d3, d4] }
  | _ => none }
def planeSweepsRow : OpenClaim := { program := "ytbnomdlojmgigaagreat", sum := "d9afee3466e0cbcaff75cd5526b25bc38124e0db8801d3ab9360340a2097c0d6", func := "wingworks/wingworkslaw02.PlaneSweeps", spec := "planeSweeps", inPlace := ["math/bits.Add64", "math/bits.Sub64", "internal/abi.NoEscape", "internal/bytealg.MakeNoZero"], unfollowed := true, recurses := true, named := ["math/bits.divideError", "math/bits.overflowError"], apart := false }
def PlaneSweepsSaid : Prop := planeSweepsRow.holds Tryz.pinned (OpenSpec.ofChange planeSweepsSpec)

/-- ITS FALSE NEIGHBOUR: 'it returns false'. Refute it at one input. -/
def planeSweepsWrong : ChangeSpec := { name := "planeSweeps", fn := fun _ => fun
  | [d1, d2, d3, d4] => { results := [.lit (.bool false)], args := [d1, d2, d3, d4] }
  | _ => none }
def PlaneSweepsWrongFalsely : Prop := planeSweepsRow.holds Tryz.pinned (OpenSpec.ofChange planeSweepsWrong)

/-- 'wingworkslaw02.PlaneFree': WHATEVER THE INPUT: true; the input reads as it did. -/
def planeFreeSpec : ChangeSpec := { name := "planeFree", fn := fun _ => fun
  | [d1, d2, d3, d4, d5, d6] => { results := [.lit (.bool true)], args := [d1, d2, d3, d4, d5, d6] }
  | _ => none }
def planeFreeRow : OpenClaim := { program := "ytbnomdlojmgigaagreat", sum := "d9afee3466e0cbcaff75cd5526b25bc38124e0db8801d3ab9360340a2097c0d6", func := "wingworks/wingworkslaw02.PlaneFree", spec := "planeFree", inPlace := ["math/bits.Add64", "math/bits.Sub64", "internal/abi.NoEscape", "internal/bytealg.MakeNoZero"], unfollowed := true, recurses := true, named := ["math/bits.divideError", "math/bits.overflowError"], apart := false }
def PlaneFreeSaid : Prop := planeFreeRow.holds Tryz.pinned (OpenSpec.ofChange planeFreeSpec)

/-- ITS FALSE NEIGHBOUR: 'it returns false'. Refute it at one input. -/
def planeFreeWrong : ChangeSpec := { name := "planeFree", fn := fun _ => fun
  | [d1, d2, d3, d4, d5, d6] => { results := [.lit (.bool false)], args := [d1, d2, d3, d4, d5, d6] }
  | _ => none }
def PlaneFreeWrongFalsely : Prop := planeFreeRow.holds Tryz.pinned (OpenSpec.ofChange planeFreeWrong)

/-- 'wingworkslaw02.PlaneWhere': WHATEVER THE INPUT: true; the input reads as it did. -/
def planeWhereSpec : ChangeSpec := { name := "planeWhere", fn := fun _ => fun
  | [d1, d2] => { results := [.lit (.bool true)], args := [d1, d2] }
  | _ => none }
def planeWhereRow : OpenClaim := { program := "ytbnomdlojmgigaagreat", sum := "d9afee3466e0cbcaff75cd5526b25bc38124e0db8801d3ab9360340a2097c0d6", func := "wingworks/wingworkslaw02.PlaneWhere", spec := "planeWhere", inPlace := ["math/bits.Add64", "math/bits.Sub64", "internal/abi.NoEscape", "internal/bytealg.MakeNoZero"], unfollowed := true, recurses := true, named := ["math/bits.divideError", "math/bits.overflowError"], apart := false }
def PlaneWhereSaid : Prop := planeWhereRow.holds Tryz.pinned (OpenSpec.ofChange planeWhereSpec)

/-- ITS FALSE NEIGHBOUR: 'it returns false'. Refute it at one input. -/
def planeWhereWrong : ChangeSpec := { name := "planeWhere", fn := fun _ => fun
  | [d1, d2] => { results := [.lit (.bool false)], args := [d1, d2] }
  | _ => none }
def PlaneWhereWrongFalsely : Prop := planeWhereRow.holds Tryz.pinned (OpenSpec.ofChange planeWhereWrong)

/-- 'wingworkslaw02.PlanePolygons': WHATEVER THE INPUT: true; the input reads as it did. -/
def planePolygonsSpec : ChangeSpec := { name := "planePolygons", fn := fun _ => fun
  | [d] => { results := [.lit (.bool true)], args := [d] }
  | _ => none }
def planePolygonsRow : OpenClaim := { program := "ytbnomdlojmgigaagreat", sum := "d9afee3466e0cbcaff75cd5526b25bc38124e0db8801d3ab9360340a2097c0d6", func := "wingworks/wingworkslaw02.PlanePolygons", spec := "planePolygons", inPlace := ["math/bits.Add64", "math/bits.Sub64", "internal/abi.NoEscape", "internal/bytealg.MakeNoZero"], unfollowed := true, recurses := true, named := ["math/bits.divideError", "math/bits.overflowError"], apart := false }
def PlanePolygonsSaid : Prop := planePolygonsRow.holds Tryz.pinned (OpenSpec.ofChange planePolygonsSpec)

/-- ITS FALSE NEIGHBOUR: 'it returns false'. Refute it at one input. -/
def planePolygonsWrong : ChangeSpec := { name := "planePolygons", fn := fun _ => fun
  | [d] => { results := [.lit (.bool false)], args := [d] }
  | _ => none }
def PlanePolygonsWrongFalsely : Prop := planePolygonsRow.holds Tryz.pinned (OpenSpec.ofChange planePolygonsWrong)

/- THE SECOND FORM. 'bulk': how many values and letters a reading holds, each counted each time it is reached (what is shared counts as often as it is met; a slice's spare places count too). A statement '..UptoSaid' is the law's where the arguments, and the package variables that the reading takes, are together of bulk at most 1048576: NARROWER than '..Said'. Prove '..Said' where nothing that the law and all that it calls make is longer than what came in: it says more and counts as full. Else prove '..UptoSaid'. A law counts once. -/
mutual
def uptoBulk {H : Type} : DataW H → Nat
  | .lit (.string bytes) => bytes.length + 1
  | .lit _ => 1
  | .nil => 1
  | .ptr d => uptoBulk d + 1
  | .slice elems spare => uptoBulkAll elems + uptoBulkAll spare + 1
  | .agg parts => uptoBulkAll parts + 1
  | .iface _ d => uptoBulk d + 1
  | .map entries => uptoBulkEntries entries + 1
  | .held _ => 1
def uptoBulkAll {H : Type} : List (DataW H) → Nat
  | [] => 0
  | d :: r => uptoBulk d + uptoBulkAll r
def uptoBulkEntries {H : Type} : List (Lit × DataW H) → Nat
  | [] => 0
  | x :: r => uptoBulkEntry x + uptoBulkEntries r
def uptoBulkEntry {H : Type} : Lit × DataW H → Nat
  | (.string bytes, d) => bytes.length + uptoBulk d + 1
  | (_, d) => uptoBulk d + 1
 end
def uptoSmall : (H : Type) → List (DataW H) → Bool := fun _ ds => decide (uptoBulkAll ds ≤ 1048576)
def OpenSpec.upto (s : _root_.Go.ChangeSpec) : _root_.Go.OpenSpec := { _root_.Go.OpenSpec.ofChange s with cond := some uptoSmall }

/-- 'wingworkslaw02.PlaneSweeps', WHERE WHAT IT READS IS OF BULK AT MOST 1048576: true; the input reads as it did. -/
def planeSweepsUptoRow : OpenClaim := { program := "ytbnomdlojmgigaagreat", sum := "d9afee3466e0cbcaff75cd5526b25bc38124e0db8801d3ab9360340a2097c0d6", func := "wingworks/wingworkslaw02.PlaneSweeps", spec := "planeSweeps", inPlace := ["math/bits.Add64", "math/bits.Sub64", "internal/abi.NoEscape", "internal/bytealg.MakeNoZero"], unfollowed := true, recurses := true, named := ["math/bits.divideError", "math/bits.overflowError"], apart := false, narrowed := true }
def PlaneSweepsUptoSaid : Prop := planeSweepsUptoRow.holds Tryz.pinned (OpenSpec.upto planeSweepsSpec)

/-- 'wingworkslaw02.PlaneFree', WHERE WHAT IT READS IS OF BULK AT MOST 1048576: true; the input reads as it did. -/
def planeFreeUptoRow : OpenClaim := { program := "ytbnomdlojmgigaagreat", sum := "d9afee3466e0cbcaff75cd5526b25bc38124e0db8801d3ab9360340a2097c0d6", func := "wingworks/wingworkslaw02.PlaneFree", spec := "planeFree", inPlace := ["math/bits.Add64", "math/bits.Sub64", "internal/abi.NoEscape", "internal/bytealg.MakeNoZero"], unfollowed := true, recurses := true, named := ["math/bits.divideError", "math/bits.overflowError"], apart := false, narrowed := true }
def PlaneFreeUptoSaid : Prop := planeFreeUptoRow.holds Tryz.pinned (OpenSpec.upto planeFreeSpec)

/-- 'wingworkslaw02.PlaneWhere', WHERE WHAT IT READS IS OF BULK AT MOST 1048576: true; the input reads as it did. -/
def planeWhereUptoRow : OpenClaim := { program := "ytbnomdlojmgigaagreat", sum := "d9afee3466e0cbcaff75cd5526b25bc38124e0db8801d3ab9360340a2097c0d6", func := "wingworks/wingworkslaw02.PlaneWhere", spec := "planeWhere", inPlace := ["math/bits.Add64", "math/bits.Sub64", "internal/abi.NoEscape", "internal/bytealg.MakeNoZero"], unfollowed := true, recurses := true, named := ["math/bits.divideError", "math/bits.overflowError"], apart := false, narrowed := true }
def PlaneWhereUptoSaid : Prop := planeWhereUptoRow.holds Tryz.pinned (OpenSpec.upto planeWhereSpec)

/-- 'wingworkslaw02.PlanePolygons', WHERE WHAT IT READS IS OF BULK AT MOST 1048576: true; the input reads as it did. -/
def planePolygonsUptoRow : OpenClaim := { program := "ytbnomdlojmgigaagreat", sum := "d9afee3466e0cbcaff75cd5526b25bc38124e0db8801d3ab9360340a2097c0d6", func := "wingworks/wingworkslaw02.PlanePolygons", spec := "planePolygons", inPlace := ["math/bits.Add64", "math/bits.Sub64", "internal/abi.NoEscape", "internal/bytealg.MakeNoZero"], unfollowed := true, recurses := true, named := ["math/bits.divideError", "math/bits.overflowError"], apart := false, narrowed := true }
def PlanePolygonsUptoSaid : Prop := planePolygonsUptoRow.holds Tryz.pinned (OpenSpec.upto planePolygonsSpec)

end Rows
end Go.Proofs.YtbnomdlojmgigaaGreat
