/-
  Law 07: is the list of layers light?
-/
import Derived.Test.YtkfekkhhfpkfaaaGreatPkLaw
set_option linter.unusedSimpArgs false
set_option linter.unusedVariables false
namespace Go.Proofs.YtkfekkhhfpkfaaaGreat
open Go.RowKit Dg
attribute [local go_sem ↓] Go.wp_at_zero Go.wp_at_succ

/-- A layer of plain data. -/
abbrev DL := (Int × Int) × (Int × Int) × (Int × Int)
def DC (_ : World) (cs : List Value) (x : DL) : Prop := cs = [.int .i64 x.1.1, .int .i64 x.1.2, .int .i64 x.2.1.1, .int .i64 x.2.1.2, .int .i64 x.2.2.1, .int .i64 x.2.2.2]
theorem DC.kept : Kept DC := fun _ _ _ _ h _ => h
def lightF (x : DL) : Bool := [x.1, x.2.1, x.2.2].all shortF
def lightQ (l : List DL) : Bool := l.all lightF && (decide ((l.length : Int) ≤ 8) || (decide (12 < (l.length : Int)) && decide ((l.length : Int) ≤ 20)))
theorem rowsF3 {w : World} {g : Nat} {n1 d1 n2 d2 n3 d3 : Int} (h : Bx w g 67 #[.int .i64 n1, .int .i64 d1, .int .i64 n2, .int .i64 d2, .int .i64 n3, .int .i64 d3]) : Rows 2 67 FC w (.slice (some ⟨g, 0, none⟩) 3 3) [(n1, d1), (n2, d2), (n3, d3)] := by
  refine ⟨_, 3, rfl, Nat.le_refl _, by decide, (fun e => by cases e), (fun a ea _ => by cases ea; exact h.ty), fun i x hx => ?_⟩
  have at_ : ∀ o cs, (∀ j u, cs[j]? = some u → #[.int .i64 n1, .int .i64 d1, .int .i64 n2, .int .i64 d2, .int .i64 n3, .int .i64 d3][o + j]? = some u) → CellsAt w g (0 + o) cs := fun o cs hc j u hu => by rw [Nat.zero_add]; exact h.at _ (hc j u hu)
  match i, hx with
  | 0, hx => cases hx; exact ⟨g, 0, _, rfl, rfl, at_ 0 [.int .i64 n1, .int .i64 d1] (fun j u hu => by match j, hu with | 0, hu => exact hu | 1, hu => exact hu), rfl⟩
  | 1, hx => cases hx; exact ⟨g, 0, _, rfl, rfl, at_ 2 [.int .i64 n2, .int .i64 d2] (fun j u hu => by match j, hu with | 0, hu => exact hu | 1, hu => exact hu), rfl⟩
  | 2, hx => cases hx; exact ⟨g, 0, _, rfl, rfl, at_ 4 [.int .i64 n3, .int .i64 d3] (fun j u hu => by match j, hu with | 0, hu => exact hu | 1, hu => exact hu), rfl⟩

end Go.Proofs.YtkfekkhhfpkfaaaGreat
