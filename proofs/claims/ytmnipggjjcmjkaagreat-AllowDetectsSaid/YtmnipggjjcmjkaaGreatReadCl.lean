/-
  An argument that is a class, read.
-/
import Derived.Test.YtmnipggjjcmjkaaGreatReadFr
set_option linter.unusedSimpArgs false
set_option linter.unusedVariables false
namespace Go.Proofs.YtmnipggjjcmjkaaGreat
open Go.RowKit Dg Go.ChangeShapes Go.WideShapes Go.Deep

section
variable {H : Type} {enc : TypeId × Value → H} {W : World} {base b0 : Nat} {spare : Nat → Bool} {held : Bool} {r : Reach}
set_option maxRecDepth 100000 in
theorem trod_class {n : Nat} {cs : List Value} {x : DataW H × List MemPlace} (h : DataW.trod enc Tryz.prog W base spare held n 57 cs = some x) :
    ∃ y : Int × Int, cs = [.int .i64 y.1, .int .i64 y.2] ∧ DOk y := by
  obtain ⟨y0, y1, m, _, hl, h0, h1⟩ := trod_struct2 Tryz.underlying57 h
  rw [show Tryz.prog.cellsOf 57 = 2 from by kernel_rfl] at hl
  match cs, hl with
  | [c0, c1], _ =>
    obtain ⟨a, e0, _, w0⟩ := DataW.trod_int Tryz.underlying3 h0
    obtain ⟨b, e1, _, w1⟩ := DataW.trod_int Tryz.underlying3 h1
    rw [show Tryz.prog.cellsOf 3 = 1 from by kernel_rfl] at e0 e1
    simp at e0 e1
    subst e0 e1
    exact ⟨(a, b), rfl, (wf_i64b w0).1, (wf_i64b w0).2, (wf_i64b w1).1, (wf_i64b w1).2⟩
set_option maxRecDepth 100000 in
theorem open_class {v : Value} {d : DataW H} {p : List MemPlace} (hv : Value.okWide Tryz.prog W r b0 57 v) (h : DataW.Trod enc Tryz.prog W base spare held 57 v d p) :
    ∃ n1 d1 : Int, v = .agg #[.int .i64 n1, .int .i64 d1] ∧ DOk (n1, d1) := by
  simp only [Value.okWide, Tryz.underlying57] at hv
  obtain ⟨cs, rfl, hsz, _⟩ := hv
  obtain ⟨fuel, hf⟩ := h
  obtain ⟨y0, e0, w0⟩ := trod_class hf
  obtain ⟨l⟩ := cs
  simp [Value.cells] at e0
  subst e0
  exact ⟨y0.1, y0.2, rfl, w0⟩
end
end Go.Proofs.YtmnipggjjcmjkaaGreat
