/-
  Law 08: small; law 01's Is; reference 01's Of; tails, ranks, coupons at whatever numbers.
-/
import Derived.Test.YtmnipggjjcmjkaaGreatPkAlRO
import Derived.Test.YtmnipggjjcmjkaaGreatPkAlFO
import Derived.Test.YtmnipggjjcmjkaaGreatPkLawO
set_option linter.unusedSimpArgs false
set_option linter.unusedVariables false
namespace Go.Proofs.YtmnipggjjcmjkaaGreat
open Go.RowKit Dg
attribute [local go_sem ↓] Go.wp_at_zero Go.wp_at_succ









end Go.Proofs.YtmnipggjjcmjkaaGreat
