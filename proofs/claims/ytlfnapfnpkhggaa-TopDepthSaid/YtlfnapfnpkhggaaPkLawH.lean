/-
  Law 07: what the laws over spans share: short pairs, spans by letters.
-/
import Derived.Test.YtlfnapfnpkhggaaSpan
import Derived.Test.YtlfnapfnpkhggaaNumbers
set_option linter.unusedSimpArgs false
set_option linter.unusedVariables false
namespace Go.Proofs.Ytlfnapfnpkhggaa
open Go.RowKit Dg
attribute [local go_sem ↓] Go.wp_at_zero Go.wp_at_succ

theorem rowsF2 {w : World} {g : Nat} {T : TypeId} {n1 d1 n2 d2 : Int} (h : Bx w g T #[.int .i64 n1, .int .i64 d1, .int .i64 n2, .int .i64 d2]) : RowsI 2 FC w (.slice (some ⟨g, 0, none⟩) 2 2) [(n1, d1), (n2, d2)] := by
  refine ⟨_, 2, rfl, Nat.le_refl _, by decide, (fun e => by cases e), fun i x hx => ?_⟩
  match i, hx with
  | 0, hx => cases hx; exact ⟨g, 0, [_, _], rfl, rfl, (fun j u hu => by match j, hu with | 0, hu => cases hu; exact h.at 0 rfl | 1, hu => cases hu; exact h.at 1 rfl), rfl⟩
  | 1, hx => cases hx; exact ⟨g, 0, [_, _], rfl, rfl, (fun j u hu => by match j, hu with | 0, hu => cases hu; exact h.at 2 rfl | 1, hu => cases hu; exact h.at 3 rfl), rfl⟩
theorem short2 {x y : Int × Int} (h : [x, y].all shortF = true) : shortF x = true ∧ shortF y = true := by simpa using h
theorem short_sz {x : Int × Int} (h : shortF x = true) (o : DOk x) : SzQ 1 (fracQ x.1 x.2) := by
  obtain ⟨n, d⟩ := x
  obtain ⟨b1, b2, b3, b4⟩ := o
  simp only [shortF, Bool.not_eq_true', Bool.or_eq_false_iff, decide_eq_false_iff_not] at h
  dsimp only at b1 b2 b3 b4
  exact szQ_fracQ (by omega) (by omega)
theorem list_sz {l : List (Int × Int)} (h : l.all shortF = true) (ok : ∀ x ∈ l, DOk x) : ∀ i, i < (l.map frF).length → SzQ 1 (nthQ (l.map frF) i) := fun i hi => by
  obtain ⟨x, hx, e⟩ := List.mem_map.1 (List.mem_of_getElem? (nthQ_some hi))
  rw [← e]
  exact short_sz (List.all_eq_true.1 h _ hx) (ok _ hx)
/-- The ends of the span of two numbers. -/
def spLo (n1 d1 n2 d2 : Int) : Rat := mnQ (fracQ n1 d1) (fracQ n2 d2)
def spHi (n1 d1 n2 d2 : Int) : Rat := mxQ (fracQ n1 d1) (fracQ n2 d2)
theorem sp_sz {n1 d1 n2 d2 : Int} (h : [(n1, d1), (n2, d2)].all shortF = true) (o1 : DOk (n1, d1)) (o2 : DOk (n2, d2)) : SzQ 1 (spLo n1 d1 n2 d2) ∧ SzQ 1 (spHi n1 d1 n2 d2) :=
  ⟨mnQ_sz (short_sz (short2 h).1 o1) (short_sz (short2 h).2 o2), mxQ_sz (short_sz (short2 h).1 o1) (short_sz (short2 h).2 o2)⟩
end Go.Proofs.Ytlfnapfnpkhggaa
/-
  Law 07: same: the program's range is the reference's one.
-/
namespace Go.Proofs.Ytlfnapfnpkhggaa
open Go.RowKit Dg
attribute [local go_sem ↓] Go.wp_at_zero Go.wp_at_succ

end Go.Proofs.Ytlfnapfnpkhggaa
