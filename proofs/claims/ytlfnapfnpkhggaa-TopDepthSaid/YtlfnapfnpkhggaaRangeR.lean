/-
  The reference's ranges: Only, least, most, Hull, SMul, Has, Before.
-/
import Derived.Test.YtlfnapfnpkhggaaPkGr
import Derived.Test.YtlfnapfnpkhggaaPkHeld
set_option linter.unusedSimpArgs false
set_option linter.unusedVariables false
namespace Go.Proofs.Ytlfnapfnpkhggaa
open Go.RowKit Dg
attribute [local go_sem ↓] Go.wp_at_zero Go.wp_at_succ

/-- The lesser one, the greater one of two numbers. -/
def mnQ (x y : Rat) : Rat := if x ≤ y then x else y
def mxQ (x y : Rat) : Rat := if y ≤ x then x else y
theorem mnQ_sz {K : Nat} {x y : Rat} (hx : SzQ K x) (hy : SzQ K y) : SzQ K (mnQ x y) := by unfold mnQ; split <;> assumption
theorem mxQ_sz {K : Nat} {x y : Rat} (hx : SzQ K x) (hy : SzQ K y) : SzQ K (mxQ x y) := by unfold mxQ; split <;> assumption





end Go.Proofs.Ytlfnapfnpkhggaa
