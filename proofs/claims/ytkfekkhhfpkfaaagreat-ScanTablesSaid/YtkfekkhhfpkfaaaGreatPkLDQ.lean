/-
  Law 07: is the list of layers light?
-/
import Derived.Test.YtkfekkhhfpkfaaaGreatPkLawQ
import Derived.Test.YtkfekkhhfpkfaaaGreatPkOpsQ
import Derived.Test.YtkfekkhhfpkfaaaGreatPkHeldQ
set_option linter.unusedSimpArgs false
set_option linter.unusedVariables false
namespace Go.Proofs.YtkfekkhhfpkfaaaGreat
open Go.RowKit Dg
attribute [local go_sem ↓] Go.wp_at_zero Go.wp_at_succ
end Go.Proofs.YtkfekkhhfpkfaaaGreat
namespace Go.Proofs.YtkfekkhhfpkfaaaGreat
open Go.RowKit Dg
attribute [local go_sem ↓] Go.wp_at_zero Go.wp_at_succ
end Go.Proofs.YtkfekkhhfpkfaaaGreat
