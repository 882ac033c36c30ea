/-
  An argument that is a fraction of plain data, or an integer, read.
-/
import Derived.Test.YtmnipggjjcmjkaaGreatPkReadQ
import Derived.Deep.Strs
import Derived.OpenShut
set_option linter.unusedSimpArgs false
set_option linter.unusedVariables false
namespace Go.Proofs.YtmnipggjjcmjkaaGreat
open Go.RowKit Dg Go.ChangeShapes Go.WideShapes Go.Deep

section
variable {H : Type} {enc : TypeId × Value → H} {W : World} {base b0 : Nat} {spare : Nat → Bool} {held : Bool} {r : Reach}
set_option maxRecDepth 100000 in
theorem open_frac {v : Value} {d : DataW H} {p : List MemPlace} (hv : Value.okWide Tryz.prog W r b0 23 v) (h : DataW.Trod enc Tryz.prog W base spare held 23 v d p) :
    ∃ n1 d1 : Int, v = .agg #[.int .i64 n1, .int .i64 d1] ∧ DOk (n1, d1) := by
  simp only [Value.okWide, Tryz.underlying23] at hv
  obtain ⟨cs, rfl, hsz, _⟩ := hv
  obtain ⟨fuel, hf⟩ := h
  obtain ⟨y0, e0, w0⟩ := trod_frac hf
  obtain ⟨l⟩ := cs
  simp [Value.cells] at e0
  subst e0
  exact ⟨y0.1, y0.2, rfl, w0⟩
end
end Go.Proofs.YtmnipggjjcmjkaaGreat
