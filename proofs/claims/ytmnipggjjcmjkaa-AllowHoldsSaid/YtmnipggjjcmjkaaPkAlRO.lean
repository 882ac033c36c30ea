/-
  One event more, element by element, as the reference reckons it. No function of the program is walked here.
-/
import Derived.Test.YtmnipggjjcmjkaaPkTailO
import Derived.Test.YtmnipggjjcmjkaaPkVecO
import Derived.Test.YtmnipggjjcmjkaaPkAlBO
set_option linter.unusedSimpArgs false
set_option linter.unusedVariables false
namespace Go.Proofs.Ytmnipggjjcmjkaa
open Go.RowKit Dg
end Go.Proofs.Ytmnipggjjcmjkaa
namespace Go.Proofs.Ytmnipggjjcmjkaa
open Go.RowKit Dg
attribute [local go_sem ↓] Go.wp_at_zero Go.wp_at_succ
end Go.Proofs.Ytmnipggjjcmjkaa
