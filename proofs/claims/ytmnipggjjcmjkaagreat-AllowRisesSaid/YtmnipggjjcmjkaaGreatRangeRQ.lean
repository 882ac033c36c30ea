/-
  The reference's ranges: Only, least, most, Hull, SMul, Has, Before.
-/
import Derived.Test.YtmnipggjjcmjkaaGreatPkGrQ
import Derived.Test.YtmnipggjjcmjkaaGreatPkHeldQ
set_option linter.unusedSimpArgs false
set_option linter.unusedVariables false
namespace Go.Proofs.YtmnipggjjcmjkaaGreat
open Go.RowKit Dg
attribute [local go_sem ↓] Go.wp_at_zero Go.wp_at_succ






end Go.Proofs.YtmnipggjjcmjkaaGreat
