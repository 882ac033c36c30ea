/-
  scan's tables: checkSteps, value, Value, Porosity.
-/
import Derived.Test.YtlfnapfnpkhggaaPkTab
import Derived.Test.YtlfnapfnpkhggaaPkScan
import Derived.Test.YtlfnapfnpkhggaaRangeP
import Derived.Test.YtlfnapfnpkhggaaPkHeld
set_option linter.unusedSimpArgs false
set_option linter.unusedVariables false
namespace Go.Proofs.Ytlfnapfnpkhggaa
open Go.RowKit Dg
attribute [local go_sem ↓] Go.wp_at_zero Go.wp_at_succ

theorem tabE_ord {T : List Stp} (h1 : 1 ≤ T.length) (h2 : T.length ≤ 12) (h : ascB T T.length = false) : tabE T = 7 := by
  unfold tabE; rw [if_neg (by omega), if_neg (by omega), h]; rfl
theorem tabE_yes {T : List Stp} (h1 : 1 ≤ T.length) (h2 : T.length ≤ 12) (h : ascB T T.length = true) : tabE T = 0 := by
  unfold tabE; rw [if_neg (by omega), if_neg (by omega), h]; rfl





theorem all_lt {T : List Stp} {x : Rat} {k : Nat} (h : ∀ j, j < k → taQ T j < x) (h1 : ¬ x = taQ T k) (h2 : ¬ x < taQ T k) : ∀ j, j < k + 1 → taQ T j < x := fun j hj => by
  by_cases e : j = k
  · subst e; grind
  · exact h j (by omega)
theorem ne_between {T : List Stp} {x : Rat} {k : Nat} (h : taQ T (k - 1) < x) (h1 : x < taQ T k) : taQ T k - taQ T (k - 1) ≠ 0 := by grind


end Go.Proofs.Ytlfnapfnpkhggaa
