/-
  Alike as the law asks for it: the doubled ranks of two batches; the other order; a rising function; a batch and itself. No function of the program is walked here.
-/
import Derived.Test.YtlmemilmhdhgbaaGreatAlkMO
set_option linter.unusedSimpArgs false
set_option linter.unusedVariables false
namespace Go.Proofs.YtlmemilmhdhgbaaGreat
open Go.RowKit Dg
theorem tri3 (x y : Rat) : x < y ∨ x = y ∨ y < x := by
  rcases Rat.le_total (a := x) (b := y) with h | h
  · by_cases e : x = y
    · exact .inr (.inl e)
    · exact .inl (Rat.not_le.1 fun h2 => e (Rat.le_antisymm h h2))
  · by_cases e : x = y
    · exact .inr (.inl e)
    · exact .inr (.inr (Rat.not_le.1 fun h2 => e (Rat.le_antisymm h2 h)))
end Go.Proofs.YtlmemilmhdhgbaaGreat
