/-
  slices.MinFunc and MaxFunc at the program's fractions, by Ratio.Cmp: the first least one, the first greatest one of a list.
-/
import Derived.Test.YtkfekkhhfpkfaaaGreatPkGrG
import Derived.Test.YtkfekkhhfpkfaaaGreatPkHeldG
import Derived.Test.YtkfekkhhfpkfaaaGreatPkRangeG
set_option linter.unusedSimpArgs false
set_option linter.unusedVariables false
namespace Go.Proofs.YtkfekkhhfpkfaaaGreat
open Go.RowKit Dg
attribute [local go_sem ↓] Go.wp_at_zero Go.wp_at_succ
end Go.Proofs.YtkfekkhhfpkfaaaGreat
namespace Go.Proofs.YtkfekkhhfpkfaaaGreat
open Go.RowKit Dg
attribute [local go_sem ↓] Go.wp_at_zero Go.wp_at_succ
end Go.Proofs.YtkfekkhhfpkfaaaGreat
