/-
  Reference 08: Rank, Coupons.
-/
import Derived.Test.YtmnipggjjcmjkaaPkAlRO
set_option linter.unusedSimpArgs false
set_option linter.unusedVariables false
namespace Go.Proofs.Ytmnipggjjcmjkaa
open Go.RowKit Dg
attribute [local go_sem ↓] Go.wp_at_zero Go.wp_at_succ
end Go.Proofs.Ytmnipggjjcmjkaa
