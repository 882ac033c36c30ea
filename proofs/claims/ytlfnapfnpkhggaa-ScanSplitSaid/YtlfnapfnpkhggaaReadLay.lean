/-
  Law 07's arguments, read: layers of plain data.
-/
import Derived.Test.YtlfnapfnpkhggaaPkRead
import Derived.Test.YtlfnapfnpkhggaaLawD
set_option linter.unusedSimpArgs false
set_option linter.unusedVariables false
namespace Go.Proofs.Ytlfnapfnpkhggaa
open Go.RowKit Dg Go.ChangeShapes Go.WideShapes Go.Deep

section
variable {H : Type} {enc : TypeId × Value → H} {W : World} {base : Nat} {spare : Nat → Bool} {held : Bool}
set_option maxRecDepth 100000 in
theorem trod_layer {n : Nat} {cs : List Value} {x : DataW H × List MemPlace} (h : DataW.trod enc Try.prog W base spare held n 83 cs = some x) :
    ∃ y : DL, DC W cs y ∧ (DOk y.1 ∧ DOk y.2.1 ∧ DOk y.2.2) := by
  obtain ⟨y0, y1, y2, m, _, hl, h0, h1, h2⟩ := trod_struct3 Try.underlying83 h
  rw [show Try.prog.cellsOf 83 = 6 from by kernel_rfl] at hl
  match cs, hl with
  | [c0, c1, c2, c3, c4, c5], _ =>
    rw [show Try.prog.cellsOf 81 = 2 from by kernel_rfl] at h0 h1 h2
    obtain ⟨a, e0, w0⟩ := trod_frac h0
    obtain ⟨b, e1, w1⟩ := trod_frac h1
    obtain ⟨c, e2, w2⟩ := trod_frac h2
    simp at e0 e1 e2
    obtain ⟨rfl, rfl⟩ := e0
    obtain ⟨rfl, rfl⟩ := e1
    obtain ⟨rfl, rfl⟩ := e2
    exact ⟨(a, b, c), rfl, w0, w1, w2⟩
end
end Go.Proofs.Ytlfnapfnpkhggaa
