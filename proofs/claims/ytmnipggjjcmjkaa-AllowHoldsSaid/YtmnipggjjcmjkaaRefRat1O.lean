/-
  The contracts of the reference's fractions, first part: under, made, magnitude, Int, New, Of, Zero, Sign, Neg, Abs.
-/
import Derived.Test.YtmnipggjjcmjkaaPkNatO
import Derived.Test.YtmnipggjjcmjkaaPkMemO
import Derived.Deep.RegionHeld3
import Derived.Deep.DeepCutAuto
import Derived.Deep.DrawnRows
set_option linter.unusedSimpArgs false
set_option linter.unusedVariables false
namespace Go.Proofs.Ytmnipggjjcmjkaa
open Go.RowKit Dg
def RetN (k : IntKind) (B : Nat) (w : World) (x : Nat) (e : Ending) (w' : World) : Prop := ∃ v, e = .returned v ∧ NatV k B w' v x ∧ Below w.heap.size w w'
def RetQ (w : World) (q : Rat) (e : Ending) (w' : World) : Prop := ∃ v, e = .returned v ∧ RV w' v q ∧ Below w.heap.size w w'
end Go.Proofs.Ytmnipggjjcmjkaa
