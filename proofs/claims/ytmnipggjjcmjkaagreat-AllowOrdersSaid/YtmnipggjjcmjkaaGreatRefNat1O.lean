/-
  The contracts of the reference's natural numbers, first part: cut, Nat, Order, Sum, Difference.
-/
import Derived.Test.YtmnipggjjcmjkaaGreatProg
import Derived.Test.YtmnipggjjcmjkaaGreatPkMemO
set_option linter.unusedSimpArgs false
set_option linter.unusedVariables false
namespace Go.Proofs.YtmnipggjjcmjkaaGreat
open Go.RowKit Dg

/-- The call hands back a slice with the digits of x, in memory of its own or in memory that was there, and changes nothing that was there. -/
def RetNat (k : IntKind) (B : Nat) (w : World) (x : Nat) (e : Ending) (w' : World) : Prop := ∃ v, e = .returned v ∧ NatV k B w' v x ∧ Below w.heap.size w w' ∧ Fresh w.heap.size v






end Go.Proofs.YtmnipggjjcmjkaaGreat
