/-
  Law 07: numbers: the program's fractions of plain data, and the reference's ones.
-/
import Derived.Test.YtlfnapfnpkhggaaGreatPkLawQ
import Derived.Test.YtlfnapfnpkhggaaGreatPkHeldQ
import Derived.Test.YtlfnapfnpkhggaaGreatPkGrQ
set_option linter.unusedSimpArgs false
set_option linter.unusedVariables false
namespace Go.Proofs.YtlfnapfnpkhggaaGreat
open Go.RowKit Dg
attribute [local go_sem ↓] Go.wp_at_zero Go.wp_at_succ


end Go.Proofs.YtlfnapfnpkhggaaGreat
