/-
  The contracts of the reference's natural numbers, second part: Order, Difference, byDigit, halved, Bits.
-/
import Derived.Test.YtmnipggjjcmjkaaRefNat1O
import Derived.Test.YtmnipggjjcmjkaaPkPlainO
import Derived.Deep.QuietTactic
import Derived.BigQuiet
set_option linter.unusedSimpArgs false
set_option linter.unusedVariables false
namespace Go.Proofs.Ytmnipggjjcmjkaa
open Go.RowKit Dg
def ordN (x y : Nat) : Int := if x < y then -1 else if y < x then 1 else 0
def Quiet (w : World) (v : Value) (e : Ending) (w' : World) : Prop := ∃ q, e = .returned v ∧ w' = w.drewN q
def RetNatD (k : IntKind) (B : Nat) (w : World) (x r : Nat) (e : Ending) (w' : World) : Prop := ∃ v, e = .returned (.tuple #[v, .int k (r : Int)]) ∧ NatV k B w' v x ∧ Below w.heap.size w w'
end Go.Proofs.Ytmnipggjjcmjkaa
