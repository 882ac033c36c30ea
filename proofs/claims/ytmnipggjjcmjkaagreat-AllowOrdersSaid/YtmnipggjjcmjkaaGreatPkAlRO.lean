/-
  One event more, element by element, as the reference reckons it. No function of the program is walked here.
-/
import Derived.Test.YtmnipggjjcmjkaaGreatPkTailO
import Derived.Test.YtmnipggjjcmjkaaGreatPkVecO
import Derived.Test.YtmnipggjjcmjkaaGreatPkAlBO
set_option linter.unusedSimpArgs false
set_option linter.unusedVariables false
namespace Go.Proofs.YtmnipggjjcmjkaaGreat
open Go.RowKit Dg

end Go.Proofs.YtmnipggjjcmjkaaGreat
/-
  Reference 08: rest, Chance, event, chances, from, tail, Tail, Rank, Coupons.
-/
namespace Go.Proofs.YtmnipggjjcmjkaaGreat
open Go.RowKit Dg
attribute [local go_sem ↓] Go.wp_at_zero Go.wp_at_succ












end Go.Proofs.YtmnipggjjcmjkaaGreat
