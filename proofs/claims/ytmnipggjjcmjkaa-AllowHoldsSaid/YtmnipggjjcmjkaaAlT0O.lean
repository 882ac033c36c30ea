/-
  Law 08: small; law 01's Is; reference 01's Of; tails, ranks, coupons at whatever numbers.
-/
import Derived.Test.YtmnipggjjcmjkaaPkAlRO
import Derived.Test.YtmnipggjjcmjkaaPkAlFO
import Derived.Test.YtmnipggjjcmjkaaPkLawO
set_option linter.unusedSimpArgs false
set_option linter.unusedVariables false
namespace Go.Proofs.Ytmnipggjjcmjkaa
open Go.RowKit Dg
attribute [local go_sem ↓] Go.wp_at_zero Go.wp_at_succ
end Go.Proofs.Ytmnipggjjcmjkaa
