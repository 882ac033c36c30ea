/-
  A bound that is found by halves: plain functions, what they find, how they rise. No program is in sight here.
-/
import Derived.Test.YtmnipggjjcmjkaaGreatPkTailQ
set_option linter.unusedSimpArgs false
set_option linter.unusedVariables false
namespace Go.Proofs.YtmnipggjjcmjkaaGreat


/-- A class of n tries, f finds, proves with the confidence c that the chance is above p. -/
def prvQ (n f : Nat) (c p : Rat) : Bool := decide (tlQ p n f ≤ 1 - c)
/-- The place of a step. -/
def atQs (s i : Nat) : Rat := ((i : Int) : Rat) / ((s : Int) : Rat)
section
variable {n f g s : Nat} {c : Rat}
end
end Go.Proofs.YtmnipggjjcmjkaaGreat
