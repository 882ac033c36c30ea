/-
  Law 07's arguments, read: a list of fractions of plain data, two of them in an array.
-/
import Derived.Test.YtlfnapfnpkhggaaGreatPkRead
import Derived.OpenShut
set_option linter.unusedSimpArgs false
set_option linter.unusedVariables false
namespace Go.Proofs.YtlfnapfnpkhggaaGreat
open Go.RowKit Dg Go.ChangeShapes Go.WideShapes Go.Deep

section
variable {H : Type} {enc : TypeId × Value → H} {W : World} {base b0 : Nat} {spare : Nat → Bool} {held : Bool} {r : Reach}
instance : Inhabited (Int × Int) := ⟨(0, 0)⟩
theorem trod_fracC {n : Nat} {cs : List Value} {x : DataW H × List MemPlace} (h : DataW.trod enc Tryz.prog W base spare held n 82 cs = some x) : ∃ y : Int × Int, FC W cs y ∧ DOk y := trod_frac h
set_option maxRecDepth 100000 in
theorem open_pair {v : Value} {d : DataW H} {p : List MemPlace} (hv : Value.okWide Tryz.prog W r b0 83 v) (h : DataW.Trod enc Tryz.prog W base spare held 83 v d p) :
    ∃ n1 d1 n2 d2 : Int, v = .agg #[.int .i64 n1, .int .i64 d1, .int .i64 n2, .int .i64 d2] ∧ DOk (n1, d1) ∧ DOk (n2, d2) := by
  simp only [Value.okWide, Tryz.underlying83] at hv
  obtain ⟨cs, rfl, hsz, _⟩ := hv
  rw [show Tryz.prog.cellsOf 83 = 4 from by kernel_rfl] at hsz
  obtain ⟨fuel, hf⟩ := h
  obtain ⟨xs, m, _, _, _, hl, hx⟩ := DataW.trod_array Tryz.underlying83 hf
  have h0 := hx 0 (by omega)
  have h1 := hx 1 (by omega)
  rw [show Tryz.prog.cellsOf 82 = 2 from by kernel_rfl] at h0 h1
  rw [List.getElem?_eq_getElem (by omega)] at h0 h1
  obtain ⟨y0, e0, w0⟩ := trod_frac h0
  obtain ⟨y1, e1, w1⟩ := trod_frac h1
  obtain ⟨l⟩ := cs
  match l, hsz with
  | [c0, c1, c2, c3], _ =>
    simp [Value.cells] at e0 e1
    obtain ⟨rfl, rfl⟩ := e0
    obtain ⟨rfl, rfl⟩ := e1
    exact ⟨y0.1, y0.2, y1.1, y1.2, rfl, w0, w1⟩
end
end Go.Proofs.YtlfnapfnpkhggaaGreat
