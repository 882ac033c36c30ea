/-
  The contracts of the reference's natural numbers, third part: halved, Bits, Product, Shifted.
-/
import Derived.Test.YtmnipggjjcmjkaaRefNat1O
import Derived.Test.YtmnipggjjcmjkaaPkPlainO
import Derived.Test.YtmnipggjjcmjkaaRefNat2O
import Derived.Deep.QuietTactic
import Derived.BigQuiet
import Derived.Deep.LoopGhost
set_option linter.unusedSimpArgs false
set_option linter.unusedVariables false
namespace Go.Proofs.Ytmnipggjjcmjkaa
open Go.RowKit Dg
end Go.Proofs.Ytmnipggjjcmjkaa
namespace Go.Proofs.Ytmnipggjjcmjkaa
open Go.RowKit Dg
end Go.Proofs.Ytmnipggjjcmjkaa
namespace Go.Proofs.Ytmnipggjjcmjkaa
open Go.RowKit Dg
def RetNat2 (k : IntKind) (B : Nat) (w : World) (x y : Nat) (e : Ending) (w' : World) : Prop :=
  ∃ v1 v2, e = .returned (.tuple #[v1, v2]) ∧ NatV k B w' v1 x ∧ NatV k B w' v2 y ∧ Below w.heap.size w w'
theorem ordN_ge {x y : Nat} (h : y ≤ x) : 0 ≤ ordN x y := by unfold ordN; rw [if_neg (by omega)]; split <;> omega
theorem ordN_lt {x y : Nat} (h : x < y) : ordN x y < 0 := by unfold ordN; rw [if_pos h]; omega
def NatS (k : IntKind) (B K : Nat) (w : World) (v : Value) (x : Nat) : Prop := ∃ ao n c l, v = .slice ao n c ∧ Sl k w ao n c l ∧ Canon B l ∧ val B l = x ∧ n ≤ K
end Go.Proofs.Ytmnipggjjcmjkaa
namespace Go.Proofs.Ytmnipggjjcmjkaa
open Go.RowKit Dg
def strV (l : List UInt8) : Value := .string ⟨l.toArray⟩
end Go.Proofs.Ytmnipggjjcmjkaa
