/-
  An argument that is a fraction of plain data, or an integer, read.
-/
import Derived.Test.YtmnipggjjcmjkaaGreatPkReadQ
import Derived.Test.YtmnipggjjcmjkaaGreatPkAlWQ
import Derived.Deep.Strs
import Derived.OpenShut
set_option linter.unusedSimpArgs false
set_option linter.unusedVariables false
namespace Go.Proofs.YtmnipggjjcmjkaaGreat
open Go.RowKit Dg Go.ChangeShapes Go.WideShapes Go.Deep

theorem wf_i64b {n : Int} (h : (Lit.int .i64 n).wf = true) : -9223372036854775808 ≤ n ∧ n ≤ 9223372036854775807 := by
  simpa [Lit.wf, IntKind.min, IntKind.max, IntKind.signed, IntKind.bits] using h
section
variable {H : Type} {enc : TypeId × Value → H} {W : World} {base b0 : Nat} {spare : Nat → Bool} {held : Bool} {r : Reach}
set_option maxRecDepth 100000 in
theorem open_frac {v : Value} {d : DataW H} {p : List MemPlace} (hv : Value.okWide Tryz.prog W r b0 23 v) (h : DataW.Trod enc Tryz.prog W base spare held 23 v d p) :
    ∃ n1 d1 : Int, v = .agg #[.int .i64 n1, .int .i64 d1] ∧ DOk (n1, d1) := by
  simp only [Value.okWide, Tryz.underlying23] at hv
  obtain ⟨cs, rfl, hsz, _⟩ := hv
  obtain ⟨fuel, hf⟩ := h
  obtain ⟨y0, e0, w0⟩ := trod_frac hf
  obtain ⟨l⟩ := cs
  simp [Value.cells] at e0
  subst e0
  exact ⟨y0.1, y0.2, rfl, w0⟩
end
end Go.Proofs.YtmnipggjjcmjkaaGreat
/-
  An argument that is a class, read.
-/
namespace Go.Proofs.YtmnipggjjcmjkaaGreat
open Go.RowKit Dg Go.ChangeShapes Go.WideShapes Go.Deep

section
variable {H : Type} {enc : TypeId × Value → H} {W : World} {base b0 : Nat} {spare : Nat → Bool} {held : Bool} {r : Reach}
set_option maxRecDepth 100000 in
theorem trod_class {n : Nat} {cs : List Value} {x : DataW H × List MemPlace} (h : DataW.trod enc Tryz.prog W base spare held n 57 cs = some x) :
    ∃ y : Int × Int, cs = [.int .i64 y.1, .int .i64 y.2] ∧ DOk y := by
  obtain ⟨y0, y1, m, _, hl, h0, h1⟩ := trod_struct2 Tryz.underlying57 h
  rw [show Tryz.prog.cellsOf 57 = 2 from by kernel_rfl] at hl
  match cs, hl with
  | [c0, c1], _ =>
    obtain ⟨a, e0, _, w0⟩ := DataW.trod_int Tryz.underlying3 h0
    obtain ⟨b, e1, _, w1⟩ := DataW.trod_int Tryz.underlying3 h1
    rw [show Tryz.prog.cellsOf 3 = 1 from by kernel_rfl] at e0 e1
    simp at e0 e1
    subst e0 e1
    exact ⟨(a, b), rfl, (wf_i64b w0).1, (wf_i64b w0).2, (wf_i64b w1).1, (wf_i64b w1).2⟩
end
end Go.Proofs.YtmnipggjjcmjkaaGreat
/-
  An argument that is a list of classes, read.
-/
namespace Go.Proofs.YtmnipggjjcmjkaaGreat
open Go.RowKit Dg Go.ChangeShapes Go.WideShapes Go.Deep

section
variable {H : Type} {enc : TypeId × Value → H} {W : World} {base b0 : Nat} {spare : Nat → Bool} {held : Bool} {r : Reach}
theorem trod_classC {n : Nat} {cs : List Value} {x : DataW H × List MemPlace} (h : DataW.trod enc Tryz.prog W base spare held n 57 cs = some x) : ∃ y : Int × Int, ClC W cs y ∧ DOk y := by
  obtain ⟨y, e, o⟩ := trod_class h
  exact ⟨y, e, o⟩
end
end Go.Proofs.YtmnipggjjcmjkaaGreat
