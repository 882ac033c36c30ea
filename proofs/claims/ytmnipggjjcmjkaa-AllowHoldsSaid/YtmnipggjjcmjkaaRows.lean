/-
  No cell of these rows narrows 'for every input' (looked for: loops, veiled, ifaces, maps, wideKeys, modest, calm, conditions, laid).
  DERIVED. THE GIVEN ROWS OF THIS SEAT. 5 by the template 'for every input the law returns true; each argument reads behind the call as it read before'; 0 by the template 'total and deterministic' (their statements: YtmnipggjjcmjkaaTotals.lean).
  GIVEN WITH THE SEED: the statements are not yours to turn. If you find one false, say at which input.
  Laid BY PROGRAM, IN A SANDBOX (cutbox-rows.mjs): the forced cells as the released guide's own fill.sh prints them over the translation e75e1ed33eb780b6… (all of the seat's roots in one cut). By AI agents, Wed Nov 11 2026. No macro, syntax, notation, axiom, sorry.
-/
import Derived.Test.YtmnipggjjcmjkaaChecked
import GoSem.Claim
import GoSem.ClaimJoined
import GoSem.ClaimMapViews
import Derived.JoinedTies
import Derived.KernelRfl
namespace Go.Proofs.Ytmnipggjjcmjkaa
/- THE CELL 'sum', in the pinned program and in every row, IS THE sha256 OF THE DUMP (.gsa) THAT YtmnipggjjcmjkaaProg.lean LOADS. Nothing in Lean hashes anything: it is a label: what it is worth is what the hold of that sum in a sandbox is worth. -/
noncomputable def Try.pinned : Pinned := { name := "ytmnipggjjcmjkaa", sum := "e75e1ed33eb780b6299cc7df39f5bbdb750cea8f687ee848444967b69f1a8aa1", checked := Try.checked }
namespace Rows
def none {H : Type} : Left H := { results := [], args := [] }

/-- 'wingworkslaw08.AllowSums': WHATEVER THE INPUT: true; the input reads as it did. -/
def allowSumsSpec : ChangeSpec := { name := "allowSums", fn := fun _ => fun
  | [d1, d2, d3, d4, d5, d6] => { results := [.lit (.bool true)], args := [d1, d2, d3, d4, d5, d6] }
  | _ => none }
def allowSumsRow : OpenClaim := { program := "ytmnipggjjcmjkaa", sum := "e75e1ed33eb780b6299cc7df39f5bbdb750cea8f687ee848444967b69f1a8aa1", func := "wingworks/wingworkslaw08.AllowSums", spec := "allowSums", inPlace := ["math/bits.Add64", "math/bits.Sub64", "internal/abi.NoEscape", "internal/bytealg.MakeNoZero"], unfollowed := true, recurses := true, named := ["math/bits.divideError", "math/bits.overflowError"], apart := false }
def AllowSumsSaid : Prop := allowSumsRow.holds Try.pinned (OpenSpec.ofChange allowSumsSpec)

/-- ITS FALSE NEIGHBOUR: 'it returns false'. Refute it at one input. -/
def allowSumsWrong : ChangeSpec := { name := "allowSums", fn := fun _ => fun
  | [d1, d2, d3, d4, d5, d6] => { results := [.lit (.bool false)], args := [d1, d2, d3, d4, d5, d6] }
  | _ => none }
def AllowSumsWrongFalsely : Prop := allowSumsRow.holds Try.pinned (OpenSpec.ofChange allowSumsWrong)

/-- 'wingworkslaw08.AllowSame': WHATEVER THE INPUT: true; the input reads as it did. -/
def allowSameSpec : ChangeSpec := { name := "allowSame", fn := fun _ => fun
  | [d1, d2, d3] => { results := [.lit (.bool true)], args := [d1, d2, d3] }
  | _ => none }
def allowSameRow : OpenClaim := { program := "ytmnipggjjcmjkaa", sum := "e75e1ed33eb780b6299cc7df39f5bbdb750cea8f687ee848444967b69f1a8aa1", func := "wingworks/wingworkslaw08.AllowSame", spec := "allowSame", inPlace := ["math/bits.Add64", "math/bits.Sub64", "internal/abi.NoEscape", "internal/bytealg.MakeNoZero"], unfollowed := true, recurses := true, named := ["math/bits.divideError", "math/bits.overflowError"], apart := false }
def AllowSameSaid : Prop := allowSameRow.holds Try.pinned (OpenSpec.ofChange allowSameSpec)

/-- ITS FALSE NEIGHBOUR: 'it returns false'. Refute it at one input. -/
def allowSameWrong : ChangeSpec := { name := "allowSame", fn := fun _ => fun
  | [d1, d2, d3] => { results := [.lit (.bool false)], args := [d1, d2, d3] }
  | _ => none }
def AllowSameWrongFalsely : Prop := allowSameRow.holds Try.pinned (OpenSpec.ofChange allowSameWrong)

/-- 'wingworkslaw08.AllowBounds': WHATEVER THE INPUT: true; the input reads as it did. -/
def allowBoundsSpec : ChangeSpec := { name := "allowBounds", fn := fun _ => fun
  | [d1, d2, d3, d4, d5] => { results := [.lit (.bool true)], args := [d1, d2, d3, d4, d5] }
  | _ => none }
def allowBoundsRow : OpenClaim := { program := "ytmnipggjjcmjkaa", sum := "e75e1ed33eb780b6299cc7df39f5bbdb750cea8f687ee848444967b69f1a8aa1", func := "wingworks/wingworkslaw08.AllowBounds", spec := "allowBounds", inPlace := ["math/bits.Add64", "math/bits.Sub64", "internal/abi.NoEscape", "internal/bytealg.MakeNoZero"], unfollowed := true, recurses := true, named := ["math/bits.divideError", "math/bits.overflowError"], apart := false }
def AllowBoundsSaid : Prop := allowBoundsRow.holds Try.pinned (OpenSpec.ofChange allowBoundsSpec)

/-- ITS FALSE NEIGHBOUR: 'it returns false'. Refute it at one input. -/
def allowBoundsWrong : ChangeSpec := { name := "allowBounds", fn := fun _ => fun
  | [d1, d2, d3, d4, d5] => { results := [.lit (.bool false)], args := [d1, d2, d3, d4, d5] }
  | _ => none }
def AllowBoundsWrongFalsely : Prop := allowBoundsRow.holds Try.pinned (OpenSpec.ofChange allowBoundsWrong)

/-- 'wingworkslaw08.AllowFits': WHATEVER THE INPUT: true; the input reads as it did. -/
def allowFitsSpec : ChangeSpec := { name := "allowFits", fn := fun _ => fun
  | [d1, d2, d3, d4] => { results := [.lit (.bool true)], args := [d1, d2, d3, d4] }
  | _ => none }
def allowFitsRow : OpenClaim := { program := "ytmnipggjjcmjkaa", sum := "e75e1ed33eb780b6299cc7df39f5bbdb750cea8f687ee848444967b69f1a8aa1", func := "wingworks/wingworkslaw08.AllowFits", spec := "allowFits", inPlace := ["math/bits.Add64", "math/bits.Sub64", "internal/abi.NoEscape", "internal/bytealg.MakeNoZero"], unfollowed := true, recurses := true, named := ["math/bits.divideError", "math/bits.overflowError"], apart := false }
def AllowFitsSaid : Prop := allowFitsRow.holds Try.pinned (OpenSpec.ofChange allowFitsSpec)

/-- ITS FALSE NEIGHBOUR: 'it returns false'. Refute it at one input. -/
def allowFitsWrong : ChangeSpec := { name := "allowFits", fn := fun _ => fun
  | [d1, d2, d3, d4] => { results := [.lit (.bool false)], args := [d1, d2, d3, d4] }
  | _ => none }
def AllowFitsWrongFalsely : Prop := allowFitsRow.holds Try.pinned (OpenSpec.ofChange allowFitsWrong)

/-- 'wingworkslaw08.AllowHolds': WHATEVER THE INPUT: true; the input reads as it did. -/
def allowHoldsSpec : ChangeSpec := { name := "allowHolds", fn := fun _ => fun
  | [d1, d2, d3, d4] => { results := [.lit (.bool true)], args := [d1, d2, d3, d4] }
  | _ => none }
def allowHoldsRow : OpenClaim := { program := "ytmnipggjjcmjkaa", sum := "e75e1ed33eb780b6299cc7df39f5bbdb750cea8f687ee848444967b69f1a8aa1", func := "wingworks/wingworkslaw08.AllowHolds", spec := "allowHolds", inPlace := ["math/bits.Add64", "math/bits.Sub64", "internal/abi.NoEscape", "internal/bytealg.MakeNoZero"], unfollowed := true, recurses := true, named := ["math/bits.divideError", "math/bits.overflowError"], apart := false }
def AllowHoldsSaid : Prop := allowHoldsRow.holds Try.pinned (OpenSpec.ofChange allowHoldsSpec)

/-- ITS FALSE NEIGHBOUR: 'it returns false'. Refute it at one input. -/
def allowHoldsWrong : ChangeSpec := { name := "allowHolds", fn := fun _ => fun
  | [d1, d2, d3, d4] => { results := [.lit (.bool false)], args := [d1, d2, d3, d4] }
  | _ => none }
def AllowHoldsWrongFalsely : Prop := allowHoldsRow.holds Try.pinned (OpenSpec.ofChange allowHoldsWrong)

/- THE SECOND FORM. 'bulk': how many values and letters a reading holds, each counted each time it is reached (what is shared counts as often as it is met; a slice's spare places count too). A statement '..UptoSaid' is the law's where the arguments, and the package variables that the reading takes, are together of bulk at most 1048576: NARROWER than '..Said'. Prove '..Said' where nothing that the law and all that it calls make is longer than what came in: it says more and counts as full. Else prove '..UptoSaid'. A law counts once. -/
mutual
def uptoBulk {H : Type} : DataW H → Nat
  | .lit (.string bytes) => bytes.length + 1
  | .lit _ => 1
  | .nil => 1
  | .ptr d => uptoBulk d + 1
  | .slice elems spare => uptoBulkAll elems + uptoBulkAll spare + 1
  | .agg parts => uptoBulkAll parts + 1
  | .iface _ d => uptoBulk d + 1
  | .map entries => uptoBulkEntries entries + 1
  | .held _ => 1
def uptoBulkAll {H : Type} : List (DataW H) → Nat
  | [] => 0
  | d :: r => uptoBulk d + uptoBulkAll r
def uptoBulkEntries {H : Type} : List (Lit × DataW H) → Nat
  | [] => 0
  | x :: r => uptoBulkEntry x + uptoBulkEntries r
def uptoBulkEntry {H : Type} : Lit × DataW H → Nat
  | (.string bytes, d) => bytes.length + uptoBulk d + 1
  | (_, d) => uptoBulk d + 1
 end
def uptoSmall : (H : Type) → List (DataW H) → Bool := fun _ ds => decide (uptoBulkAll ds ≤ 1048576)
def OpenSpec.upto (s : _root_.Go.ChangeSpec) : _root_.Go.OpenSpec := { _root_.Go.OpenSpec.ofChange s with cond := some uptoSmall }

/-- 'wingworkslaw08.AllowSums', WHERE WHAT IT READS IS OF BULK AT MOST 1048576: true; the input reads as it did. -/
def allowSumsUptoRow : OpenClaim := { program := "ytmnipggjjcmjkaa", sum := "e75e1ed33eb780b6299cc7df39f5bbdb750cea8f687ee848444967b69f1a8aa1", func := "wingworks/wingworkslaw08.AllowSums", spec := "allowSums", inPlace := ["math/bits.Add64", "math/bits.Sub64", "internal/abi.NoEscape", "internal/bytealg.MakeNoZero"], unfollowed := true, recurses := true, named := ["math/bits.divideError", "math/bits.overflowError"], apart := false, narrowed := true }
def AllowSumsUptoSaid : Prop := allowSumsUptoRow.holds Try.pinned (OpenSpec.upto allowSumsSpec)

/-- 'wingworkslaw08.AllowSame', WHERE WHAT IT READS IS OF BULK AT MOST 1048576: true; the input reads as it did. -/
def allowSameUptoRow : OpenClaim := { program := "ytmnipggjjcmjkaa", sum := "e75e1ed33eb780b6299cc7df39f5bbdb750cea8f687ee848444967b69f1a8aa1", func := "wingworks/wingworkslaw08.AllowSame", spec := "allowSame", inPlace := ["math/bits.Add64", "math/bits.Sub64", "internal/abi.NoEscape", "internal/bytealg.MakeNoZero"], unfollowed := true, recurses := true, named := ["math/bits.divideError", "math/bits.overflowError"], apart := false, narrowed := true }
def AllowSameUptoSaid : Prop := allowSameUptoRow.holds Try.pinned (OpenSpec.upto allowSameSpec)

/-- 'wingworkslaw08.AllowBounds', WHERE WHAT IT READS IS OF BULK AT MOST 1048576: true; the input reads as it did. -/
def allowBoundsUptoRow : OpenClaim := { program := "ytmnipggjjcmjkaa", sum := "e75e1ed33eb780b6299cc7df39f5bbdb750cea8f687ee848444967b69f1a8aa1", func := "wingworks/wingworkslaw08.AllowBounds", spec := "allowBounds", inPlace := ["math/bits.Add64", "math/bits.Sub64", "internal/abi.NoEscape", "internal/bytealg.MakeNoZero"], unfollowed := true, recurses := true, named := ["math/bits.divideError", "math/bits.overflowError"], apart := false, narrowed := true }
def AllowBoundsUptoSaid : Prop := allowBoundsUptoRow.holds Try.pinned (OpenSpec.upto allowBoundsSpec)

/-- 'wingworkslaw08.AllowFits', WHERE WHAT IT READS IS OF BULK AT MOST 1048576: true; the input reads as it did. -/
def allowFitsUptoRow : OpenClaim := { program := "ytmnipggjjcmjkaa", sum := "e75e1ed33eb780b6299cc7df39f5bbdb750cea8f687ee848444967b69f1a8aa1", func := "wingworks/wingworkslaw08.AllowFits", spec := "allowFits", inPlace := ["math/bits.Add64", "math/bits.Sub64", "internal/abi.NoEscape", "internal/bytealg.MakeNoZero"], unfollowed := true, recurses := true, named := ["math/bits.divideError", "math/bits.overflowError"], apart := false, narrowed := true }
def AllowFitsUptoSaid : Prop := allowFitsUptoRow.holds Try.pinned (OpenSpec.upto allowFitsSpec)

/-- 'wingworkslaw08.AllowHolds', WHERE WHAT IT READS IS OF BULK AT MOST 1048576: true; the input reads as it did. -/
def allowHoldsUptoRow : OpenClaim := { program := "ytmnipggjjcmjkaa", sum := "e75e1ed33eb780b6299cc7df39f5bbdb750cea8f687ee848444967b69f1a8aa1", func := "wingworks/wingworkslaw08.AllowHolds", spec := "allowHolds", inPlace := ["math/bits.Add64", "math/bits.Sub64", "internal/abi.NoEscape", "internal/bytealg.MakeNoZero"], unfollowed := true, recurses := true, named := ["math/bits.divideError", "math/bits.overflowError"], apart := false, narrowed := true }
def AllowHoldsUptoSaid : Prop := allowHoldsUptoRow.holds Try.pinned (OpenSpec.upto allowHoldsSpec)

end Rows
end Go.Proofs.Ytmnipggjjcmjkaa
