/-
  Law 07's arguments, read: a list of pairs of fractions of plain data, one fraction, two bytes.
-/
import Derived.Test.YtlfnapfnpkhggaaGreatPkReadQ
import Derived.Test.YtlfnapfnpkhggaaGreatPkTabQ
import Derived.OpenShut
set_option linter.unusedSimpArgs false
set_option linter.unusedVariables false
namespace Go.Proofs.YtlfnapfnpkhggaaGreat
open Go.RowKit Dg Go.ChangeShapes Go.WideShapes Go.Deep

section
variable {H : Type} {enc : TypeId × Value → H} {W : World} {base b0 : Nat} {spare : Nat → Bool} {held : Bool} {r : Reach}
instance : Inhabited DP := ⟨((0, 0), (0, 0))⟩
set_option maxRecDepth 100000 in
theorem trod_pairC {n : Nat} {cs : List Value} {x : DataW H × List MemPlace} (h : DataW.trod enc Tryz.prog W base spare held n 83 cs = some x) : ∃ y : DP, QC W cs y ∧ (DOk y.1 ∧ DOk y.2) := by
  obtain ⟨xs, m, _, _, hsz, hl, hx⟩ := DataW.trod_array Tryz.underlying83 h
  rw [show Tryz.prog.cellsOf 83 = 4 from by kernel_rfl] at hsz
  have h0 := hx 0 (by omega)
  have h1 := hx 1 (by omega)
  rw [show Tryz.prog.cellsOf 82 = 2 from by kernel_rfl] at h0 h1
  rw [List.getElem?_eq_getElem (by omega)] at h0 h1
  obtain ⟨y0, e0, w0⟩ := trod_frac h0
  obtain ⟨y1, e1, w1⟩ := trod_frac h1
  match cs, hsz with
  | [c0, c1, c2, c3], _ =>
    simp at e0 e1
    obtain ⟨rfl, rfl⟩ := e0
    obtain ⟨rfl, rfl⟩ := e1
    exact ⟨(y0, y1), rfl, w0, w1⟩
set_option maxRecDepth 100000 in
theorem open_frac {v : Value} {d : DataW H} {p : List MemPlace} (hv : Value.okWide Tryz.prog W r b0 82 v) (h : DataW.Trod enc Tryz.prog W base spare held 82 v d p) :
    ∃ n1 d1 : Int, v = .agg #[.int .i64 n1, .int .i64 d1] ∧ DOk (n1, d1) := by
  simp only [Value.okWide, Tryz.underlying82] at hv
  obtain ⟨cs, rfl, hsz, _⟩ := hv
  obtain ⟨fuel, hf⟩ := h
  obtain ⟨y0, e0, w0⟩ := trod_frac hf
  obtain ⟨l⟩ := cs
  simp [Value.cells] at e0
  subst e0
  exact ⟨y0.1, y0.2, rfl, w0⟩
theorem wf_u8' {n : Int} (h : (Lit.int .u8 n).wf = true) : 0 ≤ n ∧ n ≤ 255 := by
  simpa [Lit.wf, IntKind.min, IntKind.max, IntKind.signed, IntKind.bits] using h
set_option maxRecDepth 100000 in
theorem open_u8s {v : Value} {d : DataW H} {p : List MemPlace} (hv : Value.okWide Tryz.prog W r b0 104 v) (h : DataW.Trod enc Tryz.prog W base spare held 104 v d p) :
    ∃ a b : Int, v = .agg #[.int .u8 a, .int .u8 b] ∧ (0 ≤ a ∧ a ≤ 255) ∧ (0 ≤ b ∧ b ≤ 255) := by
  simp only [Value.okWide, Tryz.underlying104] at hv
  obtain ⟨cs, rfl, hsz0, _⟩ := hv
  obtain ⟨fuel, hf⟩ := h
  obtain ⟨xs, m, _, _, hsz, hl, hx⟩ := DataW.trod_array Tryz.underlying104 hf
  rw [show Tryz.prog.cellsOf 104 = 2 from by kernel_rfl] at hsz
  have h0 := hx 0 (by omega)
  have h1 := hx 1 (by omega)
  rw [show Tryz.prog.cellsOf 5 = 1 from by kernel_rfl] at h0 h1
  rw [List.getElem?_eq_getElem (by omega)] at h0 h1
  obtain ⟨a, e0, _, w0⟩ := DataW.trod_int Tryz.underlying5 h0
  obtain ⟨b, e1, _, w1⟩ := DataW.trod_int Tryz.underlying5 h1
  obtain ⟨l⟩ := cs
  match l, hsz with
  | [c0, c1], _ =>
    simp [Value.cells] at e0 e1
    subst e0 e1
    exact ⟨a, b, rfl, wf_u8' w0, wf_u8' w1⟩
end
end Go.Proofs.YtlfnapfnpkhggaaGreat
