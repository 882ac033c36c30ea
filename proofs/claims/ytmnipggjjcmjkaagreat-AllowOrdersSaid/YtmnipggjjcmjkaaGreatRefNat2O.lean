/-
  The contracts of the reference's natural numbers, second part: Order, Difference, byDigit, halved, Bits.
-/
import Derived.Test.YtmnipggjjcmjkaaGreatRefNat1O
import Derived.Test.YtmnipggjjcmjkaaGreatPkPlainO
import Derived.Deep.QuietTactic
import Derived.BigQuiet
set_option linter.unusedSimpArgs false
set_option linter.unusedVariables false
namespace Go.Proofs.YtmnipggjjcmjkaaGreat
open Go.RowKit Dg

/-- The order of two numbers as Go tells it. -/
def ordN (x y : Nat) : Int := if x < y then -1 else if y < x then 1 else 0

/-- The call hands back a value and has drawn some orders of evaluation, no more. -/
def Quiet (w : World) (v : Value) (e : Ending) (w' : World) : Prop := ∃ q, e = .returned v ∧ w' = w.drewN q



/-- The quotient and the remainder of a division by a digit. -/
def RetNatD (k : IntKind) (B : Nat) (w : World) (x r : Nat) (e : Ending) (w' : World) : Prop := ∃ v, e = .returned (.tuple #[v, .int k (r : Int)]) ∧ NatV k B w' v x ∧ Below w.heap.size w w'

end Go.Proofs.YtmnipggjjcmjkaaGreat
