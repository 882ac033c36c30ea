/-
  No cell of these rows narrows 'for every input' (looked for: loops, veiled, ifaces, maps, wideKeys, modest, calm, conditions, laid).
  DERIVED. THE GIVEN ROWS OF THIS SEAT. 7 by the template 'for every input the law returns true; each argument reads behind the call as it read before'; 0 by the template 'total and deterministic' (their statements: YtmnipggjjcmjkaaGreatTotals.lean).
  GIVEN WITH THE SEED: the statements are not yours to turn. If you find one false, say at which input.
  Laid BY PROGRAM, IN A SANDBOX (cutbox-rows.mjs): the forced cells as the released guide's own fill.sh prints them over the translation 6c50893e3162caf0… (all of the seat's roots in one cut). By AI agents, Wed Nov 11 2026. No macro, syntax, notation, axiom, sorry.
-/
import Derived.Test.YtmnipggjjcmjkaaGreatChecked
import GoSem.Claim
import GoSem.ClaimJoined
import GoSem.ClaimMapViews
import Derived.JoinedTies
import Derived.KernelRfl
namespace Go.Proofs.YtmnipggjjcmjkaaGreat
/- THE CELL 'sum', in the pinned program and in every row, IS THE sha256 OF THE DUMP (.gsa) THAT YtmnipggjjcmjkaaGreatProg.lean LOADS. Nothing in Lean hashes anything: it is a label: what it is worth is what the hold of that sum in a sandbox is worth. -/
noncomputable def Tryz.pinned : Pinned := { name := "ytmnipggjjcmjkaagreat", sum := "6c50893e3162caf0104c4ff4ee7149b30e9b752826993f25f60d399318234bee", checked := Tryz.checked }
namespace Rows
def none {H : Type} : Left H := { results := [], args := [] }

/-- 'wingworkslaw08.AllowTails': WHATEVER THE INPUT: true; the input reads as it did. -/
def allowTailsSpec : ChangeSpec := { name := "allowTails", fn := fun _ => fun
  | [d1, d2, d3, d4, d5, d6] => { results := [.lit (.bool true)], args := [d1, d2, d3, d4, d5, d6] }
  | _ => none }
def allowTailsRow : OpenClaim := { program := "ytmnipggjjcmjkaagreat", sum := "6c50893e3162caf0104c4ff4ee7149b30e9b752826993f25f60d399318234bee", func := "wingworks/wingworkslaw08.AllowTails", spec := "allowTails", inPlace := ["math/bits.Add64", "math/bits.Sub64", "internal/abi.NoEscape", "internal/bytealg.MakeNoZero"], unfollowed := true, recurses := true, named := ["math/bits.divideError", "math/bits.overflowError"], apart := false }
def AllowTailsSaid : Prop := allowTailsRow.holds Tryz.pinned (OpenSpec.ofChange allowTailsSpec)

/-- ITS FALSE NEIGHBOUR: 'it returns false'. Refute it at one input. -/
def allowTailsWrong : ChangeSpec := { name := "allowTails", fn := fun _ => fun
  | [d1, d2, d3, d4, d5, d6] => { results := [.lit (.bool false)], args := [d1, d2, d3, d4, d5, d6] }
  | _ => none }
def AllowTailsWrongFalsely : Prop := allowTailsRow.holds Tryz.pinned (OpenSpec.ofChange allowTailsWrong)

/-- 'wingworkslaw08.AllowAlikes': WHATEVER THE INPUT: true; the input reads as it did. -/
def allowAlikesSpec : ChangeSpec := { name := "allowAlikes", fn := fun _ => fun
  | [d1, d2] => { results := [.lit (.bool true)], args := [d1, d2] }
  | _ => none }
def allowAlikesRow : OpenClaim := { program := "ytmnipggjjcmjkaagreat", sum := "6c50893e3162caf0104c4ff4ee7149b30e9b752826993f25f60d399318234bee", func := "wingworks/wingworkslaw08.AllowAlikes", spec := "allowAlikes", inPlace := ["math/bits.Add64", "math/bits.Sub64", "internal/abi.NoEscape", "internal/bytealg.MakeNoZero"], unfollowed := true, recurses := true, named := ["math/bits.divideError", "math/bits.overflowError"], apart := false }
def AllowAlikesSaid : Prop := allowAlikesRow.holds Tryz.pinned (OpenSpec.ofChange allowAlikesSpec)

/-- ITS FALSE NEIGHBOUR: 'it returns false'. Refute it at one input. -/
def allowAlikesWrong : ChangeSpec := { name := "allowAlikes", fn := fun _ => fun
  | [d1, d2] => { results := [.lit (.bool false)], args := [d1, d2] }
  | _ => none }
def AllowAlikesWrongFalsely : Prop := allowAlikesRow.holds Tryz.pinned (OpenSpec.ofChange allowAlikesWrong)

/-- 'wingworkslaw08.AllowDetects': WHATEVER THE INPUT: true; the input reads as it did. -/
def allowDetectsSpec : ChangeSpec := { name := "allowDetects", fn := fun _ => fun
  | [d1, d2, d3] => { results := [.lit (.bool true)], args := [d1, d2, d3] }
  | _ => none }
def allowDetectsRow : OpenClaim := { program := "ytmnipggjjcmjkaagreat", sum := "6c50893e3162caf0104c4ff4ee7149b30e9b752826993f25f60d399318234bee", func := "wingworks/wingworkslaw08.AllowDetects", spec := "allowDetects", inPlace := ["math/bits.Add64", "math/bits.Sub64", "internal/abi.NoEscape", "internal/bytealg.MakeNoZero"], unfollowed := true, recurses := true, named := ["math/bits.divideError", "math/bits.overflowError"], apart := false }
def AllowDetectsSaid : Prop := allowDetectsRow.holds Tryz.pinned (OpenSpec.ofChange allowDetectsSpec)

/-- ITS FALSE NEIGHBOUR: 'it returns false'. Refute it at one input. -/
def allowDetectsWrong : ChangeSpec := { name := "allowDetects", fn := fun _ => fun
  | [d1, d2, d3] => { results := [.lit (.bool false)], args := [d1, d2, d3] }
  | _ => none }
def AllowDetectsWrongFalsely : Prop := allowDetectsRow.holds Tryz.pinned (OpenSpec.ofChange allowDetectsWrong)

/-- 'wingworkslaw08.AllowPools': WHATEVER THE INPUT: true; the input reads as it did. -/
def allowPoolsSpec : ChangeSpec := { name := "allowPools", fn := fun _ => fun
  | [d1, d2] => { results := [.lit (.bool true)], args := [d1, d2] }
  | _ => none }
def allowPoolsRow : OpenClaim := { program := "ytmnipggjjcmjkaagreat", sum := "6c50893e3162caf0104c4ff4ee7149b30e9b752826993f25f60d399318234bee", func := "wingworks/wingworkslaw08.AllowPools", spec := "allowPools", inPlace := ["math/bits.Add64", "math/bits.Sub64", "internal/abi.NoEscape", "internal/bytealg.MakeNoZero"], unfollowed := true, recurses := true, named := ["math/bits.divideError", "math/bits.overflowError"], apart := false }
def AllowPoolsSaid : Prop := allowPoolsRow.holds Tryz.pinned (OpenSpec.ofChange allowPoolsSpec)

/-- ITS FALSE NEIGHBOUR: 'it returns false'. Refute it at one input. -/
def allowPoolsWrong : ChangeSpec := { name := "allowPools", fn := fun _ => fun
  | [d1, d2] => { results := [.lit (.bool false)], args := [d1, d2] }
  | _ => none }
def AllowPoolsWrongFalsely : Prop := allowPoolsRow.holds Tryz.pinned (OpenSpec.ofChange allowPoolsWrong)

/-- 'wingworkslaw08.AllowRises': WHATEVER THE INPUT: true; the input reads as it did. -/
def allowRisesSpec : ChangeSpec := { name := "allowRises", fn := fun _ => fun
  | [d1, d2, d3, d4] => { results := [.lit (.bool true)], args := [d1, d2, d3, d4] }
  | _ => none }
def allowRisesRow : OpenClaim := { program := "ytmnipggjjcmjkaagreat", sum := "6c50893e3162caf0104c4ff4ee7149b30e9b752826993f25f60d399318234bee", func := "wingworks/wingworkslaw08.AllowRises", spec := "allowRises", inPlace := ["math/bits.Add64", "math/bits.Sub64", "internal/abi.NoEscape", "internal/bytealg.MakeNoZero"], unfollowed := true, recurses := true, named := ["math/bits.divideError", "math/bits.overflowError"], apart := false }
def AllowRisesSaid : Prop := allowRisesRow.holds Tryz.pinned (OpenSpec.ofChange allowRisesSpec)

/-- ITS FALSE NEIGHBOUR: 'it returns false'. Refute it at one input. -/
def allowRisesWrong : ChangeSpec := { name := "allowRises", fn := fun _ => fun
  | [d1, d2, d3, d4] => { results := [.lit (.bool false)], args := [d1, d2, d3, d4] }
  | _ => none }
def AllowRisesWrongFalsely : Prop := allowRisesRow.holds Tryz.pinned (OpenSpec.ofChange allowRisesWrong)

/-- 'wingworkslaw08.AllowOrders': WHATEVER THE INPUT: true; the input reads as it did. -/
def allowOrdersSpec : ChangeSpec := { name := "allowOrders", fn := fun _ => fun
  | [d1, d2, d3, d4, d5, d6, d7] => { results := [.lit (.bool true)], args := [d1, d2, d3, d4, d5, d6, d7] }
  | _ => none }
def allowOrdersRow : OpenClaim := { program := "ytmnipggjjcmjkaagreat", sum := "6c50893e3162caf0104c4ff4ee7149b30e9b752826993f25f60d399318234bee", func := "wingworks/wingworkslaw08.AllowOrders", spec := "allowOrders", inPlace := ["math/bits.Add64", "math/bits.Sub64", "internal/abi.NoEscape", "internal/bytealg.MakeNoZero"], unfollowed := true, recurses := true, named := ["math/bits.divideError", "math/bits.overflowError"], apart := false }
def AllowOrdersSaid : Prop := allowOrdersRow.holds Tryz.pinned (OpenSpec.ofChange allowOrdersSpec)

/-- ITS FALSE NEIGHBOUR: 'it returns false'. Refute it at one input. -/
def allowOrdersWrong : ChangeSpec := { name := "allowOrders", fn := fun _ => fun
  | [d1, d2, d3, d4, d5, d6, d7] => { results := [.lit (.bool false)], args := [d1, d2, d3, d4, d5, d6, d7] }
  | _ => none }
def AllowOrdersWrongFalsely : Prop := allowOrdersRow.holds Tryz.pinned (OpenSpec.ofChange allowOrdersWrong)

/-- 'wingworkslaw08.AllowLimits': WHATEVER THE INPUT: true; the input reads as it did. -/
def allowLimitsSpec : ChangeSpec := { name := "allowLimits", fn := fun _ => fun
  | [d1, d2, d3, d4] => { results := [.lit (.bool true)], args := [d1, d2, d3, d4] }
  | _ => none }
def allowLimitsRow : OpenClaim := { program := "ytmnipggjjcmjkaagreat", sum := "6c50893e3162caf0104c4ff4ee7149b30e9b752826993f25f60d399318234bee", func := "wingworks/wingworkslaw08.AllowLimits", spec := "allowLimits", inPlace := ["math/bits.Add64", "math/bits.Sub64", "internal/abi.NoEscape", "internal/bytealg.MakeNoZero"], unfollowed := true, recurses := true, named := ["math/bits.divideError", "math/bits.overflowError"], apart := false }
def AllowLimitsSaid : Prop := allowLimitsRow.holds Tryz.pinned (OpenSpec.ofChange allowLimitsSpec)

/-- ITS FALSE NEIGHBOUR: 'it returns false'. Refute it at one input. -/
def allowLimitsWrong : ChangeSpec := { name := "allowLimits", fn := fun _ => fun
  | [d1, d2, d3, d4] => { results := [.lit (.bool false)], args := [d1, d2, d3, d4] }
  | _ => none }
def AllowLimitsWrongFalsely : Prop := allowLimitsRow.holds Tryz.pinned (OpenSpec.ofChange allowLimitsWrong)

/- THE SECOND FORM. 'bulk': how many values and letters a reading holds, each counted each time it is reached (what is shared counts as often as it is met; a slice's spare places count too). A statement '..UptoSaid' is the law's where the arguments, and the package variables that the reading takes, are together of bulk at most 1048576: NARROWER than '..Said'. Prove '..Said' where nothing that the law and all that it calls make is longer than what came in: it says more and counts as full. Else prove '..UptoSaid'. A law counts once. -/
mutual
def uptoBulk {H : Type} : DataW H → Nat
  | .lit (.string bytes) => bytes.length + 1
  | .lit _ => 1
  | .nil => 1
  | .ptr d => uptoBulk d + 1
  | .slice elems spare => uptoBulkAll elems + uptoBulkAll spare + 1
  | .agg parts => uptoBulkAll parts + 1
  | .iface _ d => uptoBulk d + 1
  | .map entries => uptoBulkEntries entries + 1
  | .held _ => 1
def uptoBulkAll {H : Type} : List (DataW H) → Nat
  | [] => 0
  | d :: r => uptoBulk d + uptoBulkAll r
def uptoBulkEntries {H : Type} : List (Lit × DataW H) → Nat
  | [] => 0
  | x :: r => uptoBulkEntry x + uptoBulkEntries r
def uptoBulkEntry {H : Type} : Lit × DataW H → Nat
  | (.string bytes, d) => bytes.length + uptoBulk d + 1
  | (_, d) => uptoBulk d + 1
 end
def uptoSmall : (H : Type) → List (DataW H) → Bool := fun _ ds => decide (uptoBulkAll ds ≤ 1048576)
def OpenSpec.upto (s : _root_.Go.ChangeSpec) : _root_.Go.OpenSpec := { _root_.Go.OpenSpec.ofChange s with cond := some uptoSmall }

/-- 'wingworkslaw08.AllowTails', WHERE WHAT IT READS IS OF BULK AT MOST 1048576: true; the input reads as it did. -/
def allowTailsUptoRow : OpenClaim := { program := "ytmnipggjjcmjkaagreat", sum := "6c50893e3162caf0104c4ff4ee7149b30e9b752826993f25f60d399318234bee", func := "wingworks/wingworkslaw08.AllowTails", spec := "allowTails", inPlace := ["math/bits.Add64", "math/bits.Sub64", "internal/abi.NoEscape", "internal/bytealg.MakeNoZero"], unfollowed := true, recurses := true, named := ["math/bits.divideError", "math/bits.overflowError"], apart := false, narrowed := true }
def AllowTailsUptoSaid : Prop := allowTailsUptoRow.holds Tryz.pinned (OpenSpec.upto allowTailsSpec)

/-- 'wingworkslaw08.AllowAlikes', WHERE WHAT IT READS IS OF BULK AT MOST 1048576: true; the input reads as it did. -/
def allowAlikesUptoRow : OpenClaim := { program := "ytmnipggjjcmjkaagreat", sum := "6c50893e3162caf0104c4ff4ee7149b30e9b752826993f25f60d399318234bee", func := "wingworks/wingworkslaw08.AllowAlikes", spec := "allowAlikes", inPlace := ["math/bits.Add64", "math/bits.Sub64", "internal/abi.NoEscape", "internal/bytealg.MakeNoZero"], unfollowed := true, recurses := true, named := ["math/bits.divideError", "math/bits.overflowError"], apart := false, narrowed := true }
def AllowAlikesUptoSaid : Prop := allowAlikesUptoRow.holds Tryz.pinned (OpenSpec.upto allowAlikesSpec)

/-- 'wingworkslaw08.AllowDetects', WHERE WHAT IT READS IS OF BULK AT MOST 1048576: true; the input reads as it did. -/
def allowDetectsUptoRow : OpenClaim := { program := "ytmnipggjjcmjkaagreat", sum := "6c50893e3162caf0104c4ff4ee7149b30e9b752826993f25f60d399318234bee", func := "wingworks/wingworkslaw08.AllowDetects", spec := "allowDetects", inPlace := ["math/bits.Add64", "math/bits.Sub64", "internal/abi.NoEscape", "internal/bytealg.MakeNoZero"], unfollowed := true, recurses := true, named := ["math/bits.divideError", "math/bits.overflowError"], apart := false, narrowed := true }
def AllowDetectsUptoSaid : Prop := allowDetectsUptoRow.holds Tryz.pinned (OpenSpec.upto allowDetectsSpec)

/-- 'wingworkslaw08.AllowPools', WHERE WHAT IT READS IS OF BULK AT MOST 1048576: true; the input reads as it did. -/
def allowPoolsUptoRow : OpenClaim := { program := "ytmnipggjjcmjkaagreat", sum := "6c50893e3162caf0104c4ff4ee7149b30e9b752826993f25f60d399318234bee", func := "wingworks/wingworkslaw08.AllowPools", spec := "allowPools", inPlace := ["math/bits.Add64", "math/bits.Sub64", "internal/abi.NoEscape", "internal/bytealg.MakeNoZero"], unfollowed := true, recurses := true, named := ["math/bits.divideError", "math/bits.overflowError"], apart := false, narrowed := true }
def AllowPoolsUptoSaid : Prop := allowPoolsUptoRow.holds Tryz.pinned (OpenSpec.upto allowPoolsSpec)

/-- 'wingworkslaw08.AllowRises', WHERE WHAT IT READS IS OF BULK AT MOST 1048576: true; the input reads as it did. -/
def allowRisesUptoRow : OpenClaim := { program := "ytmnipggjjcmjkaagreat", sum := "6c50893e3162caf0104c4ff4ee7149b30e9b752826993f25f60d399318234bee", func := "wingworks/wingworkslaw08.AllowRises", spec := "allowRises", inPlace := ["math/bits.Add64", "math/bits.Sub64", "internal/abi.NoEscape", "internal/bytealg.MakeNoZero"], unfollowed := true, recurses := true, named := ["math/bits.divideError", "math/bits.overflowError"], apart := false, narrowed := true }
def AllowRisesUptoSaid : Prop := allowRisesUptoRow.holds Tryz.pinned (OpenSpec.upto allowRisesSpec)

/-- 'wingworkslaw08.AllowOrders', WHERE WHAT IT READS IS OF BULK AT MOST 1048576: true; the input reads as it did. -/
def allowOrdersUptoRow : OpenClaim := { program := "ytmnipggjjcmjkaagreat", sum := "6c50893e3162caf0104c4ff4ee7149b30e9b752826993f25f60d399318234bee", func := "wingworks/wingworkslaw08.AllowOrders", spec := "allowOrders", inPlace := ["math/bits.Add64", "math/bits.Sub64", "internal/abi.NoEscape", "internal/bytealg.MakeNoZero"], unfollowed := true, recurses := true, named := ["math/bits.divideError", "math/bits.overflowError"], apart := false, narrowed := true }
def AllowOrdersUptoSaid : Prop := allowOrdersUptoRow.holds Tryz.pinned (OpenSpec.upto allowOrdersSpec)

/-- 'wingworkslaw08.AllowLimits', WHERE WHAT IT READS IS OF BULK AT MOST 1048576: true; the input reads as it did. -/
def allowLimitsUptoRow : OpenClaim := { program := "ytmnipggjjcmjkaagreat", sum := "6c50893e3162caf0104c4ff4ee7149b30e9b752826993f25f60d399318234bee", func := "wingworks/wingworkslaw08.AllowLimits", spec := "allowLimits", inPlace := ["math/bits.Add64", "math/bits.Sub64", "internal/abi.NoEscape", "internal/bytealg.MakeNoZero"], unfollowed := true, recurses := true, named := ["math/bits.divideError", "math/bits.overflowError"], apart := false, narrowed := true }
def AllowLimitsUptoSaid : Prop := allowLimitsUptoRow.holds Tryz.pinned (OpenSpec.upto allowLimitsSpec)

end Rows
end Go.Proofs.YtmnipggjjcmjkaaGreat
