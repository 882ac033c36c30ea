/-
  A slice among the arguments, read: the list that it holds. No function of the program is in sight here.
-/
import Derived.Test.YtkfekkhhfpkfaaaGreatPkMemG
import Derived.Test.YtkfekkhhfpkfaaaGreatPkLawG
import Derived.Deep.Slices
import Derived.Deep.Strs
import Derived.OpenShut
set_option linter.unusedSimpArgs false
set_option linter.unusedVariables false
set_option maxRecDepth 100000
namespace Go.Proofs.YtkfekkhhfpkfaaaGreat
open Go.RowKit Dg Go.ChangeShapes Go.WideShapes Go.Deep
section
variable {H : Type} {enc : TypeId × Value → H} {P : Program} {W : World} {base b0 : Nat} {spare : Nat → Bool} {held : Bool}
theorem okWide_spot {r : Reach} {t e : TypeId} {a : Addr} {len cap : Nat} (ht : P.underlying t = some (.slice e)) (h : Value.okWide P W r b0 t (.slice (some a) len cap)) : a.spot = none := by
  simp only [Value.okWide, ht, Cell.okWide, Cell.ok, World.has] at h
  exact h.2.2.2.1
theorem rowsI_in {α : Type} [Inhabited α] {R : World → List Value → α → Prop} {Ok : α → Prop} {t e : TypeId} {size : Nat} {r : Reach} {v : Value} {d : DataW H} {p : List MemPlace} (ht : P.underlying t = some (.slice e)) (hsz : P.cellsOf e = size)
    (hel : ∀ n cs x, DataW.trod enc P W base spare held n e cs = some x → ∃ y, R W cs y ∧ Ok y)
    (hv : Value.okWide P W r b0 t v) (h : DataW.Trod enc P W base spare held t v d p) : ∃ l : List α, RowsI size R W v l ∧ ∀ y ∈ l, Ok y := by
  obtain ⟨a0, len, cap, rfl⟩ := okWide_slice ht hv
  obtain ⟨fuel, hf⟩ := h
  rcases open_slice ht hf with ⟨hcs, _⟩ | ⟨a, len', cap', m, n, D, Pl, hcs, _, hl, hm, hmm, _, hx⟩
  · simp [Value.cells] at hcs
    obtain ⟨rfl, rfl, rfl⟩ := hcs
    exact ⟨[], ⟨none, 0, rfl, by simp, by omega, fun _ => rfl, fun i x hx => by simp at hx⟩, by simp⟩
  · simp [Value.cells] at hcs
    obtain ⟨rfl, rfl, rfl⟩ := hcs
    have hsp := okWide_spot ht hv
    obtain ⟨b, o, sp⟩ := a
    simp only at hsp
    subst hsp
    have hall : ∀ i, i < len → ∃ y : α, (∃ cs : List Value, cs.length = size ∧ CellsAt W b (o + i * size) cs ∧ R W cs y) ∧ Ok y := by
      intro i hi
      obtain ⟨cs, h1, h2⟩ := hx i (by rw [hmm]; split <;> omega)
      rw [hsz] at h1
      obtain ⟨_, h3, h4⟩ := World.cells?_some h1
      obtain ⟨y, h5, h6⟩ := hel n cs _ h2
      refine ⟨y, ⟨cs, h3, fun j u hu => ?_, h5⟩, h6⟩
      have hj : j < size := by have := (List.getElem?_eq_some_iff.1 hu).1; omega
      have := h4 j hj
      rw [hu, add_plain, add_plain] at this
      exact this
    obtain ⟨f, hf2⟩ := choose_lt hall
    refine ⟨(List.range len).map f, ⟨some ⟨b, o, none⟩, cap, by simp, by simpa using hl, by unfold maxLen at hm; omega, (fun e => by cases e), fun i x hx2 => ?_⟩, fun y hy => ?_⟩
    · rw [List.getElem?_map] at hx2
      by_cases hi : i < len
      · rw [List.getElem?_range hi] at hx2
        simp only [Option.map_some, Option.some.injEq] at hx2
        subst hx2
        obtain ⟨cs, h1, h2, h3⟩ := (hf2 i hi).1
        exact ⟨b, o, cs, rfl, h1, h2, h3⟩
      · rw [List.getElem?_eq_none (by simpa using hi)] at hx2
        cases hx2
    · obtain ⟨i, hi, rfl⟩ := List.mem_map.1 hy
      exact (hf2 i (List.mem_range.1 hi)).2
end
end Go.Proofs.YtkfekkhhfpkfaaaGreat
namespace Go.Proofs.YtkfekkhhfpkfaaaGreat
open Go.RowKit Dg Go.ChangeShapes Go.WideShapes Go.Deep
section
variable {H : Type} {enc : TypeId × Value → H} {W : World} {base : Nat} {spare : Nat → Bool} {held : Bool}
theorem wf_i64 {n : Int} (h : (Lit.int .i64 n).wf = true) : -9223372036854775808 ≤ n ∧ n ≤ 9223372036854775807 := by
  simpa [Lit.wf, IntKind.min, IntKind.max, IntKind.signed, IntKind.bits] using h
theorem trod_frac {n : Nat} {cs : List Value} {x : DataW H × List MemPlace} (h : DataW.trod enc Tryz.prog W base spare held n 67 cs = some x) :
    ∃ y : Int × Int, cs = [.int .i64 y.1, .int .i64 y.2] ∧ DOk y := by
  obtain ⟨y0, y1, m, _, hl, h0, h1⟩ := trod_struct2 Tryz.underlying67 h
  rw [show Tryz.prog.cellsOf 67 = 2 from by kernel_rfl] at hl
  match cs, hl with
  | [c0, c1], _ =>
    obtain ⟨a, e0, _, w0⟩ := DataW.trod_int Tryz.underlying2 h0
    obtain ⟨b, e1, _, w1⟩ := DataW.trod_int Tryz.underlying2 h1
    rw [show Tryz.prog.cellsOf 2 = 1 from by kernel_rfl] at e0 e1
    simp at e0 e1
    subst e0 e1
    exact ⟨(a, b), rfl, (wf_i64 w0).1, (wf_i64 w0).2, (wf_i64 w1).1, (wf_i64 w1).2⟩
end
end Go.Proofs.YtkfekkhhfpkfaaaGreat
namespace Go.Proofs.YtkfekkhhfpkfaaaGreat
open Go.RowKit Dg Go.ChangeShapes Go.WideShapes Go.Deep
section
variable {H : Type} {enc : TypeId × Value → H} {W : World} {base b0 : Nat} {spare : Nat → Bool} {held : Bool} {r : Reach}
instance : Inhabited (Int × Int) := ⟨(0, 0)⟩
theorem trod_fracC {n : Nat} {cs : List Value} {x : DataW H × List MemPlace} (h : DataW.trod enc Tryz.prog W base spare held n 67 cs = some x) : ∃ y : Int × Int, FC W cs y ∧ DOk y := trod_frac h
end
end Go.Proofs.YtkfekkhhfpkfaaaGreat
