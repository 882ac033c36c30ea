/-
  The contracts of the reference's fractions, first part: under, made, magnitude, Int, New, Of, Zero, Sign, Neg, Abs.
-/
import Derived.Test.YtmnipggjjcmjkaaGreatPkNatO
import Derived.Test.YtmnipggjjcmjkaaGreatPkMemO
import Derived.Deep.RegionHeld3
import Derived.Deep.DeepCutAuto
import Derived.Deep.DrawnRows
set_option linter.unusedSimpArgs false
set_option linter.unusedVariables false
namespace Go.Proofs.YtmnipggjjcmjkaaGreat
open Go.RowKit Dg

/-- A number is handed back. -/
def RetN (k : IntKind) (B : Nat) (w : World) (x : Nat) (e : Ending) (w' : World) : Prop := ∃ v, e = .returned v ∧ NatV k B w' v x ∧ Below w.heap.size w w'

/-- A fraction of the reference is handed back. -/
def RetQ (w : World) (q : Rat) (e : Ending) (w' : World) : Prop := ∃ v, e = .returned v ∧ RV w' v q ∧ Below w.heap.size w w'









theorem NatV.sz {w : World} {v : Value} {x K : Nat} (h : NatV .u32 4294967296 w v x) (hx : x < 4294967296 ^ K) : NatS .u32 4294967296 K w v x := by
  obtain ⟨ao, n, c, l, e, hs, hc, hv⟩ := h
  refine ⟨ao, n, c, l, e, hs, hc, hv, ?_⟩
  have := hc.length_le (by omega) (by rw [hv]; exact hx)
  rwa [hs.len] at this



end Go.Proofs.YtmnipggjjcmjkaaGreat
