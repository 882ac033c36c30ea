/-
  Arguments that are lists of small numbers, read.
-/
import Derived.Test.YtmnipggjjcmjkaaAlkVO
import Derived.Test.YtmnipggjjcmjkaaPkReadO
import Derived.Deep.Strs
import Derived.OpenShut
set_option linter.unusedSimpArgs false
set_option linter.unusedVariables false
namespace Go.Proofs.Ytmnipggjjcmjkaa
open Go.RowKit Dg Go.ChangeShapes Go.WideShapes Go.Deep
section
variable {H : Type} {enc : TypeId × Value → H} {W : World} {base b0 : Nat} {spare : Nat → Bool} {held : Bool} {r : Reach}
theorem wf_i8d {n : Int} (h : (Lit.int .i8 n).wf = true) : -128 ≤ n ∧ n ≤ 127 := by
  simpa [Lit.wf, IntKind.min, IntKind.max, IntKind.signed, IntKind.bits] using h
theorem trod_i8 {n : Nat} {cs : List Value} {x : DataW H × List MemPlace} (h : DataW.trod enc Try.prog W base spare held n 81 cs = some x) : ∃ y : Int, I8C W cs y ∧ (-128 ≤ y ∧ y ≤ 127) := by
  obtain ⟨a, e0, _, w0⟩ := DataW.trod_int Try.underlying81 h
  exact ⟨a, e0, wf_i8d w0⟩
end
end Go.Proofs.Ytmnipggjjcmjkaa
