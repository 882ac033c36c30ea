/-
  The contracts of small functions of scan, of its reference: whole, over, thrown; zero, one, quotient, reflect.
-/
import Derived.Test.YtlmemilmhdhgbaaGreatPkOpsO
set_option linter.unusedSimpArgs false
set_option linter.unusedVariables false
namespace Go.Proofs.YtlmemilmhdhgbaaGreat
open Go.RowKit Dg
attribute [local go_sem ↓] Go.wp_at_zero Go.wp_at_succ
end Go.Proofs.YtlmemilmhdhgbaaGreat
namespace Go.Proofs.YtlmemilmhdhgbaaGreat
open Go.RowKit Dg
attribute [local go_sem ↓] Go.wp_at_zero Go.wp_at_succ
end Go.Proofs.YtlmemilmhdhgbaaGreat
