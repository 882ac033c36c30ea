/-
  The contracts of the reference's natural numbers, first part: cut, Nat, Order, Sum, Difference.
-/
import Derived.Test.YtmnipggjjcmjkaaProg
import Derived.Test.YtmnipggjjcmjkaaPkMemO
set_option linter.unusedSimpArgs false
set_option linter.unusedVariables false
namespace Go.Proofs.Ytmnipggjjcmjkaa
open Go.RowKit Dg
def RetNat (k : IntKind) (B : Nat) (w : World) (x : Nat) (e : Ending) (w' : World) : Prop := ∃ v, e = .returned v ∧ NatV k B w' v x ∧ Below w.heap.size w w' ∧ Fresh w.heap.size v
end Go.Proofs.Ytmnipggjjcmjkaa
