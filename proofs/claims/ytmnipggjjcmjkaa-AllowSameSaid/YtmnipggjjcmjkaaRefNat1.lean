/-
  The contracts of the reference's natural numbers, first part: cut, Nat, Order, Sum, Difference.
-/
import Derived.Test.YtmnipggjjcmjkaaProg
import Derived.Test.YtmnipggjjcmjkaaPkMem
set_option linter.unusedSimpArgs false
set_option linter.unusedVariables false
namespace Go.Proofs.Ytmnipggjjcmjkaa
open Go.RowKit Dg

/-- The call hands back a slice with the digits of x, in memory of its own or in memory that was there, and changes nothing that was there. -/
def RetNat (k : IntKind) (B : Nat) (w : World) (x : Nat) (e : Ending) (w' : World) : Prop := ∃ v, e = .returned v ∧ NatV k B w' v x ∧ Below w.heap.size w w' ∧ Fresh w.heap.size v

theorem info_u32 : (Try.prog.info? 153).map (fun i => (i.zero, i.size, i.bytes)) = some (some (.int .u32 0), 1, 4) := by kernel_rfl

/-- What the reference's 'cut' leaves of a list of digits. -/
def CutTo (B : Nat) (ao : Option Addr) (n c : Nat) (l : List Nat) (w : World) (e : Ending) (w' : World) : Prop :=
  ∃ m, m ≤ n ∧ Canon B (l.take m) ∧ val B (l.take m) = val B l ∧ e = .returned (.slice ao m c) ∧ w = w'




end Go.Proofs.Ytmnipggjjcmjkaa
