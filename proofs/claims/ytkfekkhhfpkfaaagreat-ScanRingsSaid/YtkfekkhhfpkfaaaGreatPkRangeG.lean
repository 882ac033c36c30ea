/-
  The program's ranges: Make, Only, Lo, Hi, Width, Has, In, Before.
-/
import Derived.Test.YtkfekkhhfpkfaaaGreatPkGrG
import Derived.Test.YtkfekkhhfpkfaaaGreatPkHeldG
set_option linter.unusedSimpArgs false
set_option linter.unusedVariables false
namespace Go.Proofs.YtkfekkhhfpkfaaaGreat
open Go.RowKit Dg
attribute [local go_sem ↓] Go.wp_at_zero Go.wp_at_succ
end Go.Proofs.YtkfekkhhfpkfaaaGreat
namespace Go.Proofs.YtkfekkhhfpkfaaaGreat
open Go.RowKit Dg
attribute [local go_sem ↓] Go.wp_at_zero Go.wp_at_succ
end Go.Proofs.YtkfekkhhfpkfaaaGreat
