/-
  Arguments that are lists of pairs of bytes, and of bytes, read.
-/
import Derived.Test.YtmnipggjjcmjkaaFit0
import Derived.Test.YtmnipggjjcmjkaaPkRead
import Derived.Deep.Strs
import Derived.OpenShut
set_option linter.unusedSimpArgs false
set_option linter.unusedVariables false
namespace Go.Proofs.Ytmnipggjjcmjkaa
open Go.RowKit Dg Go.ChangeShapes Go.WideShapes Go.Deep

section
variable {H : Type} {enc : TypeId × Value → H} {W : World} {base b0 : Nat} {spare : Nat → Bool} {held : Bool} {r : Reach}
theorem wf_u8c {n : Int} (h : (Lit.int .u8 n).wf = true) : 0 ≤ n ∧ n ≤ 255 := by
  simpa [Lit.wf, IntKind.min, IntKind.max, IntKind.signed, IntKind.bits] using h
set_option maxRecDepth 100000 in
theorem trod_u2 {n : Nat} {cs : List Value} {x : DataW H × List MemPlace} (h : DataW.trod enc Try.prog W base spare held n 22 cs = some x) : ∃ y : Int × Int, U2C W cs y ∧ ((0 ≤ y.1 ∧ y.1 ≤ 255) ∧ (0 ≤ y.2 ∧ y.2 ≤ 255)) := by
  obtain ⟨xs, m, _, _, hsz, hl, hx⟩ := DataW.trod_array Try.underlying22 h
  rw [show Try.prog.cellsOf 22 = 2 from by kernel_rfl] at hsz
  have h0 := hx 0 (by omega)
  have h1 := hx 1 (by omega)
  rw [show Try.prog.cellsOf 5 = 1 from by kernel_rfl] at h0 h1
  rw [List.getElem?_eq_getElem (by omega)] at h0 h1
  obtain ⟨a, e0, _, w0⟩ := DataW.trod_int Try.underlying5 h0
  obtain ⟨b, e1, _, w1⟩ := DataW.trod_int Try.underlying5 h1
  match cs, hsz with
  | [c0, c1], _ =>
    simp at e0 e1
    subst e0 e1
    exact ⟨(a, b), rfl, wf_u8c w0, wf_u8c w1⟩
theorem trod_w8 {n : Nat} {cs : List Value} {x : DataW H × List MemPlace} (h : DataW.trod enc Try.prog W base spare held n 5 cs = some x) : ∃ y : Int, W8C W cs y ∧ (0 ≤ y ∧ y ≤ 255) := by
  obtain ⟨a, e0, _, w0⟩ := DataW.trod_int Try.underlying5 h
  exact ⟨a, e0, wf_u8c w0⟩
end
end Go.Proofs.Ytmnipggjjcmjkaa
